/- Plain facts on distances, cliques, boundaries and parts of Cayley graphs. -/
import Derived.Test.YtgjomoedgmofbaaPi
import Derived.Test.YtgjomoedgmofbaaC32
namespace Go.Zz

/-! ### what is reached in n steps -/
def Rch (l : List Int) (a n x y : Nat) : Prop := (growTo l a (2 ^ x) n).testBit y = true
theorem rch_zero {l : List Int} {a x y : Nat} : Rch l a 0 x y ↔ x = y := by
  unfold Rch growTo; rw [bit_two, decide_eq_true_iff]
theorem rch_succ {l : List Int} {a n x y : Nat} : Rch l a (n + 1) x y ↔ Rch l a n x y ∨ ∃ u s, u < 24 ∧ Rch l a n x u ∧ s < 24 ∧ a.testBit s = true ∧ addF l u s = y := by
  unfold Rch
  rw [growTo_succ, Nat.testBit_or, Bool.or_eq_true, testBit_sumF]
theorem rch_lt {l : List Int} (hg : isGrp l = true) {a n x y : Nat} (hx : x < ord l) (h : Rch l a n x y) : y < ord l := by
  refine Classical.byContradiction fun e => ?_
  have := testBit_ge (growTo_lt (a := a) hg (show 2 ^ x < 2 ^ ord l from Nat.pow_lt_pow_right (by omega) hx) n) (show ord l ≤ y by omega)
  unfold Rch at h; rw [this] at h; cases h
theorem rch_mono {l : List Int} {a n x y : Nat} (h : Rch l a n x y) (d : Nat) : Rch l a (n + d) x y := growTo_mono l a (2 ^ x) n d y h
theorem rch_trans {l : List Int} {a d x y : Nat} (h : Rch l a d x y) : ∀ e z, Rch l a e y z → Rch l a (d + e) x z
  | 0, z, k => by rw [rch_zero] at k; subst k; exact h
  | e + 1, z, k => by
    rw [rch_succ] at k
    rw [← Nat.add_assoc, rch_succ]
    rcases k with k | ⟨u, s, hu, k1, hs, hs2, e2⟩
    · exact Or.inl (rch_trans h e z k)
    · exact Or.inr ⟨u, s, hu, rch_trans h e u k1, hs, hs2, e2⟩
theorem rch_symm {l : List Int} (hg : isGrp l = true) {a : Nat} (ho : oppF l a = a) : ∀ n x y, x < ord l → Rch l a n x y → Rch l a n y x
  | 0, x, y, _, k => by rw [rch_zero] at k ⊢; exact k.symm
  | n + 1, x, y, hx, k => by
    have hb := ord_bd hg
    have h := isGrp_ords hg
    rw [rch_succ] at k
    rcases k with k | ⟨u, s, hu, k1, hs, hs2, e⟩
    · exact rch_mono (rch_symm hg ho n x y hx k) 1
    · have hul := rch_lt hg hx k1
      have h1 : Rch l a 1 y u := by
        rw [rch_succ]
        refine Or.inr ⟨y, negF l s, by rw [← e]; exact addF_bd hg _ _, rch_zero.2 rfl, negF_bd hg s, by rw [← ho]; exact testBit_oppF.2 ⟨s, hs, hs2, rfl⟩, ?_⟩
        rw [← e, addF_assoc l h, addF_neg l h, addF_zero' h hul]
      have := rch_trans h1 n x (rch_symm hg ho n x u hx k1)
      rwa [Nat.add_comm] at this
theorem rch_shift {l : List Int} (hg : isGrp l = true) {a : Nat} (z : Nat) : ∀ n x y, x < ord l → Rch l a n x y → Rch l a n (addF l x z) (addF l y z)
  | 0, x, y, _, k => by rw [rch_zero] at k ⊢; rw [k]
  | n + 1, x, y, hx, k => by
    have h := isGrp_ords hg
    rw [rch_succ] at k ⊢
    rcases k with k | ⟨u, s, hu, k1, hs, hs2, e⟩
    · exact Or.inl (rch_shift hg z n x y hx k)
    · exact Or.inr ⟨addF l u z, s, addF_bd hg _ _, rch_shift hg z n x u hx k1, hs, hs2, by rw [← e, addF_assoc l h, addF_comm l z s, ← addF_assoc l h]⟩
theorem rch_cut {l : List Int} (hg : isGrp l = true) {a n x y : Nat} (hx : x < ord l) (h : Rch l a n x y) : Rch l a 24 x y := by
  by_cases hn : n ≤ 24
  · have := rch_mono h (24 - n)
    rwa [show n + (24 - n) = 24 by omega] at this
  · have hb := ord_bd hg
    have e := growTo_fix (growTo_still (a := a) hg (show 2 ^ x < 2 ^ ord l from Nat.pow_lt_pow_right (by omega) hx) (two_ne x) (n := 24) (by omega)) (n - 24)
    rw [show 24 + (n - 24) = n by omega] at e
    unfold Rch at h ⊢
    rw [← e]; exact h
theorem distN_rch {l : List Int} {a x y : Nat} (h : 0 ≤ distN l a x y) : Rch l a (distN l a x y).toNat x y := by
  unfold distN at h ⊢
  split at h
  · rename_i n hn
    have := (List.find?_range_eq_some.1 hn).1
    rw [Int.toNat_natCast]; exact this
  · omega
theorem distN_least {l : List Int} (hg : isGrp l = true) {a n x y : Nat} (hx : x < ord l) (h : Rch l a n x y) : 0 ≤ distN l a x y ∧ distN l a x y ≤ n := by
  have h24 := rch_cut hg hx h
  unfold distN
  split
  · rename_i m hm
    have hm2 := (List.find?_range_eq_some.1 hm).2.2
    refine ⟨by omega, ?_⟩
    refine Classical.byContradiction fun e => ?_
    have := hm2 n (by omega)
    unfold Rch at h
    rw [h] at this; cases this
  · rename_i hm
    rw [List.find?_range_eq_none] at hm
    have := hm 24 (by omega)
    unfold Rch at h24
    rw [h24] at this; simp at this
theorem distN_symm {l : List Int} (hg : isGrp l = true) {a x y : Nat} (ho : oppF l a = a) (hx : x < ord l) (hy : y < ord l) : distN l a x y = distN l a y x := by
  have key : ∀ x y, x < ord l → y < ord l → 0 ≤ distN l a x y → 0 ≤ distN l a y x ∧ distN l a y x ≤ distN l a x y := fun x y hx hy h => by
    have := distN_least hg hy (rch_symm hg ho _ x y hx (distN_rch h))
    omega
  have b1 := distN_bd l a x y
  have b2 := distN_bd l a y x
  by_cases h : 0 ≤ distN l a x y
  · have h1 := key x y hx hy h
    have h2 := key y x hy hx h1.1
    omega
  · by_cases h' : 0 ≤ distN l a y x
    · have := key y x hy hx h'; omega
    · omega
theorem connB_opp {l : List Int} {n : Nat} (h : connB l n = true) : oppF l n = n := by
  unfold connB at h
  rw [Bool.and_eq_true] at h
  have := of_decide_eq_true h.2
  simpa using this
theorem dist_symm (l : List Int) (a x y : Int) : distF l a x y = distF l a y x := by
  cases h : (connB l a && hasB l x && hasB l y)
  · have h' : (connB l a && hasB l y && hasB l x) = false := by
      cases hc : connB l a <;> cases h1 : hasB l x <;> cases h2 : hasB l y <;> simp_all
    rw [distF_no h, distF_no h']
  · have h' : (connB l a && hasB l y && hasB l x) = true := by
      cases hc : connB l a <;> cases h1 : hasB l x <;> cases h2 : hasB l y <;> simp_all
    have hp := h
    simp only [Bool.and_eq_true] at hp
    obtain ⟨a, rfl, -, -, hg⟩ := connB_nat hp.1.1
    obtain ⟨x, rfl, hx, -⟩ := hasB_nat hp.1.2
    obtain ⟨y, rfl, hy, -⟩ := hasB_nat hp.2
    rw [distF_yes h, distF_yes h']
    exact distN_symm hg (connB_opp hp.1.1) hx hy
/-- what a distance that is told says of its arguments -/
theorem dist_nat {l : List Int} {a x y : Int} (h : 0 ≤ distF l a x y) : ∃ a' x' y' : Nat, a = a' ∧ x = x' ∧ y = y' ∧ isGrp l = true ∧ connB l a = true ∧ x' < ord l ∧ y' < ord l ∧ distF l a x y = distN l a' x' y' := by
  cases hb : (connB l a && hasB l x && hasB l y)
  · rw [distF_no hb] at h; omega
  · have hp := hb
    simp only [Bool.and_eq_true] at hp
    obtain ⟨a, rfl, -, -, hg⟩ := connB_nat hp.1.1
    obtain ⟨x, rfl, hx, -⟩ := hasB_nat hp.1.2
    obtain ⟨y, rfl, hy, -⟩ := hasB_nat hp.2
    exact ⟨a, x, y, rfl, rfl, rfl, hg, hp.1.1, hx, hy, distF_yes hb⟩
theorem distF_of {l : List Int} {a x y : Nat} (hg : isGrp l = true) (hc : connB l a = true) (hx : x < ord l) (hy : y < ord l) : distF l a x y = distN l a x y :=
  distF_yes (by rw [hc, hasB_of hg hx, hasB_of hg hy]; rfl)
theorem dist_tri {l : List Int} {a x y z : Int} (h : 0 ≤ distF l a x y) (k : 0 ≤ distF l a y z) : 0 ≤ distF l a x z ∧ distF l a x z ≤ distF l a x y + distF l a y z := by
  obtain ⟨a', x', y', rfl, rfl, rfl, hg, hc, hx, hy, e1⟩ := dist_nat h
  obtain ⟨a2, y2, z', ea, ey, rfl, -, -, -, hz, e2⟩ := dist_nat k
  have ea' : a2 = a' := by omega
  have ey' : y2 = y' := by omega
  subst ea'; subst ey'
  rw [distF_of hg hc hx hz, e1, e2]
  rw [e1] at h
  rw [e2] at k
  have := distN_least hg hx (rch_trans (distN_rch h) _ _ (distN_rch k))
  omega
theorem dist_shift {l : List Int} {a : Int} {x y z : Nat} (h : 0 ≤ distF l a x y) : distF l a (addF l x z : Nat) (addF l y z : Nat) = distF l a x y := by
  obtain ⟨a, x', y', rfl, ex, ey, hg, hc, hx, hy, e1⟩ := dist_nat h
  have ex' : x' = x := by omega
  have ey' : y' = y := by omega
  subst ex'; subst ey'
  have hO := isGrp_ords hg
  have hxz := addF_lt l hO x' z
  have hyz := addF_lt l hO y' z
  rw [e1, distF_of hg hc hxz hyz]
  rw [e1] at h
  have h1 := distN_least hg hxz (rch_shift hg z _ _ _ hx (distN_rch h))
  have h2 := distN_least hg hx (by
    have := rch_shift hg (negF l z) _ _ _ hxz (distN_rch h1.1)
    rw [addF_assoc l hO, addF_assoc l hO, addF_neg l hO, addF_zero' hO hx, addF_zero' hO hy] at this
    exact this)
  omega

/-! ### parts -/
theorem cosTo_head {l : List Int} (hg : isGrp l = true) {h : Nat} (hh : h < 2 ^ ord l) (h0 : h.testBit 0 = true) : ∀ k, (∀ j, j < k + 1 → h.testBit j = true) → cosTo l h (k + 1) = ([shiftF l h 0], shiftF l h 0)
  | 0, _ => by
    rw [cosTo_no (by simp [cosTo])]
    simp [cosTo]
  | k + 1, hj => by
    have ih := cosTo_head hg hh h0 k fun j hj' => hj j (by omega)
    rw [cosTo_yes, ih]
    rw [ih]
    show (shiftF l h 0).testBit (k + 1) = true
    have hb := hj (k + 1) (by omega)
    exact testBit_shiftF.2 ⟨k + 1, by have := ord_bd hg; have := bit_lt hh hb; omega, hb, addF_zero l (isGrp_ords hg) _ (bit_lt hh hb)⟩
theorem cosTo_mono (l : List Int) (h k : Nat) : ∀ d, (cosTo l h k).1.length ≤ (cosTo l h (k + d)).1.length
  | 0 => Nat.le_refl _
  | d + 1 => by
    have ih := cosTo_mono l h k d
    rw [← Nat.add_assoc]
    cases e : (cosTo l h (k + d)).2.testBit (k + d)
    · rw [cosTo_no e]; simp; omega
    · rw [cosTo_yes e]; exact ih
theorem shift_zero {l : List Int} (hg : isGrp l = true) {h : Nat} (hh : h < 2 ^ ord l) : shiftF l h 0 = h := by
  refine Nat.eq_of_testBit_eq fun i => bool_eq_of ?_
  rw [testBit_shiftF]
  constructor
  · rintro ⟨y, _, hy, rfl⟩
    rw [addF_zero l (isGrp_ords hg) _ (bit_lt hh hy)]; exact hy
  · intro hi
    exact ⟨i, by have := ord_bd hg; have := bit_lt hh hi; omega, hi, addF_zero l (isGrp_ords hg) _ (bit_lt hh hi)⟩
theorem cos_one {l : List Int} (hg : isGrp l = true) {h : Nat} (hh : h < 2 ^ ord l) (h0 : h.testBit 0 = true) : (cosTo l h (ord l)).1.length = 1 ↔ ∀ j, j < ord l → h.testBit j = true := by
  have hob := ord_bd hg
  constructor
  · intro e
    refine Classical.byContradiction fun hn => ?_
    -- the first one that lacks
    have : ∃ j, j < ord l ∧ h.testBit j = false ∧ ∀ i, i < j → h.testBit i = true := by
      refine Classical.byContradiction fun hq => hn ?_
      intro j
      induction j using Nat.strongRecOn with
      | ind j ih =>
        intro hj
        refine Classical.byContradiction fun hb => hq ⟨j, hj, by simpa using hb, fun i hi => ih i hi (by omega)⟩
    obtain ⟨j, hj, hb, hlow⟩ := this
    cases j with
    | zero => rw [h0] at hb; cases hb
    | succ j =>
      have e1 := cosTo_head hg hh h0 j fun i hi => hlow i hi
      have e2 : (cosTo l h (j + 1)).2.testBit (j + 1) = false := by rw [e1]; show (shiftF l h 0).testBit (j + 1) = false; rw [shift_zero hg hh]; exact hb
      have e3 : (cosTo l h (j + 2)).1.length = 2 := by rw [show j + 2 = (j + 1) + 1 from rfl, cosTo_no e2, e1]; rfl
      have e4 := cosTo_mono l h (j + 2) (ord l - (j + 2))
      rw [show j + 2 + (ord l - (j + 2)) = ord l by omega, e3, e] at e4
      omega
  · intro hall
    have := cosTo_head hg hh h0 (ord l - 1) fun j hj => hall j (by omega)
    rw [show ord l - 1 + 1 = ord l by omega] at this
    rw [this]; rfl
theorem parts_one {l : List Int} {a : Int} (h : connB l a = true) : (partsF l a).length = 1 ↔ 0 ≤ diamF l a := by
  obtain ⟨a, rfl, ha, ha2, hg⟩ := connB_nat h
  have hob := ord_bd hg
  rw [partsF_yes h, cosF_yes (subB_gen hg a), castL_len, cos_one hg (genF_lt hg a) (genF_zero l a)]
  have hR : ∀ j, j < ord l → ((genF l a).testBit j = true ↔ 0 ≤ distF l a 0 (j : Nat)) := fun j hj => by
    have e : distF l a 0 (j : Nat) = distN l a 0 j := distF_of (x := 0) hg h (by omega) hj
    rw [e]
    have eg : (genF l a).testBit j = true ↔ Rch l a 24 0 j := Iff.rfl
    rw [eg]
    exact ⟨fun k => (distN_least hg (by omega) k).1, fun k => rch_cut hg (by omega) (distN_rch k)⟩
  constructor
  · intro hall
    rw [diamF_yes h fun j hj => (hR j hj).1 (hall j hj)]
    exact (dmTo_bd l a _).1
  · intro hd j hj
    rw [hR j hj]
    refine Classical.byContradiction fun e => ?_
    rw [diamF_neg hj (by omega)] at hd
    omega

/-! ### cliques -/
theorem fsS_prop {Q : Nat → Prop} (P : Nat → Bool) (N : Nat) (hQ : ∀ b, P b = true → Q b) : ∀ (f b fr : Nat), Q b → Q (fsS P N f b fr)
  | 0, _, _, h => h
  | f + 1, b, fr, h => by
    unfold fsS
    have key : ∀ (L : List Nat), (∀ x ∈ L, P (b ||| 2 ^ x) = true) → ∀ r, Q r → Q (L.foldl (fun (best x : Nat) => if cnt best < cnt (fsS P N f (b ||| 2 ^ x) (x + 1)) then fsS P N f (b ||| 2 ^ x) (x + 1) else best) r) := by
      intro L
      induction L with
      | nil => intro _ r h; exact h
      | cons x L ih =>
        intro hL r hr
        rw [List.foldl_cons]
        refine ih (fun y hy => hL y (by simp [hy])) _ ?_
        split
        · exact fsS_prop P N hQ f _ _ (hQ _ (hL x (by simp)))
        · exact hr
    refine key _ (fun x hx => ?_) b h
    have := (mem_elems.1 hx).2
    rw [kidN_bit] at this
    simp only [Bool.and_eq_true] at this
    exact this.2.2
theorem fold_cnt (P : Nat → Bool) (N f b : Nat) : ∀ (L : List Nat) (r : Nat), cnt r ≤ cnt (L.foldl (fun (best x : Nat) => if cnt best < cnt (fsS P N f (b ||| 2 ^ x) (x + 1)) then fsS P N f (b ||| 2 ^ x) (x + 1) else best) r) ∧ ∀ x ∈ L, cnt (fsS P N f (b ||| 2 ^ x) (x + 1)) ≤ cnt (L.foldl (fun (best x : Nat) => if cnt best < cnt (fsS P N f (b ||| 2 ^ x) (x + 1)) then fsS P N f (b ||| 2 ^ x) (x + 1) else best) r)
  | [], r => ⟨Nat.le_refl _, fun _ h => (by cases h)⟩
  | y :: L, r => by
    rw [List.foldl_cons]
    obtain ⟨h1, h2⟩ := fold_cnt P N f b L (if cnt r < cnt (fsS P N f (b ||| 2 ^ y) (y + 1)) then fsS P N f (b ||| 2 ^ y) (y + 1) else r)
    have h3 : cnt r ≤ cnt (if cnt r < cnt (fsS P N f (b ||| 2 ^ y) (y + 1)) then fsS P N f (b ||| 2 ^ y) (y + 1) else r) ∧ cnt (fsS P N f (b ||| 2 ^ y) (y + 1)) ≤ cnt (if cnt r < cnt (fsS P N f (b ||| 2 ^ y) (y + 1)) then fsS P N f (b ||| 2 ^ y) (y + 1) else r) := by
      split <;> omega
    refine ⟨by omega, fun x hx => ?_⟩
    rw [List.mem_cons] at hx
    rcases hx with rfl | hx
    · omega
    · exact h2 x hx
theorem fsS_more (P : Nat → Bool) (N : Nat) : ∀ (f b fr : Nat), cnt b ≤ cnt (fsS P N f b fr)
  | 0, _, _ => Nat.le_refl _
  | f + 1, b, fr => by unfold fsS; exact (fold_cnt P N f b _ b).1
/-- a clique is not empty, joined throughout, and not larger than the connection set and one more -/
theorem lc_fact {l : List Int} {a : Int} (h : lcF l a = true) : ∃ k n : Nat, a = n ∧ lcV l a = k ∧ isGrp l = true ∧ k < 2 ^ ord l ∧ n < 2 ^ ord l ∧ k ≠ 0 ∧ andN (sumF l k (oppF l k)) (n ||| 1) = 0 ∧ cnt k ≤ cnt n + 1 := by
  have hp := h
  unfold lcF at hp
  rw [Bool.and_eq_true, decide_eq_true_eq] at hp
  obtain ⟨n, rfl, hn, hn24, hg⟩ := connB_nat hp.1
  have hob := ord_bd hg
  have hO := isGrp_ords hg
  refine ⟨fsS (cliP l n) (ord l) (ord l + 1) 0 0, n, rfl, by unfold lcV; rw [if_pos h]; first | done | rfl, hg, ?_⟩
  obtain ⟨K, hK⟩ : ∃ K, K = fsS (cliP l n) (ord l) (ord l + 1) 0 0 := ⟨_, rfl⟩
  rw [← hK]
  have hc0 : cliP l n 0 = true := by rw [cliP_iff hg]; intro y z _ _ hy; simp at hy
  have hcl : cliP l n K = true := by
    rw [hK]; exact fsS_prop (Q := fun b => cliP l n b = true) _ _ (fun b hb => hb) _ _ _ hc0
  have hlt : K < 2 ^ ord l := by
    rw [hK]
    have : ∀ (f b fr : Nat), b < 2 ^ ord l → fsS (cliP l n) (ord l) f b fr < 2 ^ ord l := by
      intro f
      induction f with
      | zero => intro b fr h; exact h
      | succ f ih =>
        intro b fr hb
        unfold fsS
        have key : ∀ (L : List Nat), (∀ x ∈ L, x < ord l) → ∀ r, r < 2 ^ ord l → L.foldl (fun (best x : Nat) => if cnt best < cnt (fsS (cliP l n) (ord l) f (b ||| 2 ^ x) (x + 1)) then fsS (cliP l n) (ord l) f (b ||| 2 ^ x) (x + 1) else best) r < 2 ^ ord l := by
          intro L
          induction L with
          | nil => intro _ r hr; exact hr
          | cons x L ih2 =>
            intro hL r hr
            rw [List.foldl_cons]
            refine ih2 (fun y hy => hL y (by simp [hy])) _ ?_
            split
            · exact ih _ _ (Nat.or_lt_two_pow hb (Nat.pow_lt_pow_right (by omega) (hL x (by simp))))
            · exact hr
        refine key _ (fun x hx => ?_) b hb
        have := (mem_elems.1 hx).2
        rw [kidN_bit] at this
        simp only [Bool.and_eq_true, decide_eq_true_eq] at this
        exact this.1
    exact this _ _ _ (Nat.two_pow_pos _)
  have h1 : 1 ≤ cnt K := by
    rw [hK]
    have e0 : fsS (cliP l n) (ord l) (ord l + 1) 0 0 = (elems (kidN (cliP l n) (ord l) 0 0)).foldl (fun (best x : Nat) => if cnt best < cnt (fsS (cliP l n) (ord l) (ord l) (0 ||| 2 ^ x) (x + 1)) then fsS (cliP l n) (ord l) (ord l) (0 ||| 2 ^ x) (x + 1) else best) 0 := by
      conv => lhs; unfold fsS
    rw [e0]
    have hin : 0 ∈ elems (kidN (cliP l n) (ord l) 0 0) := by
      rw [mem_elems, cli_start hg, fullN_bit]
      exact ⟨by omega, by simp; omega⟩
    have h2 := (fold_cnt (cliP l n) (ord l) (ord l) 0 _ 0).2 0 hin
    have h3 := fsS_more (cliP l n) (ord l) (ord l) (0 ||| 2 ^ 0) (0 + 1)
    have h4 : cnt (0 ||| 2 ^ 0) = 1 := by decide
    omega
  have hK0 : K ≠ 0 := fun e => by rw [e, cnt_zero] at h1; omega
  refine ⟨hlt, hn, hK0, by unfold cliP at hcl; exact of_decide_eq_true hcl, ?_⟩
  -- K - x within the connection set and 0
  have hK24 : K < 2 ^ 24 := Nat.lt_of_lt_of_le hlt (pow_ord hg)
  obtain ⟨-, -, hx, hx24⟩ := lowN_first hK0 hK24
  obtain ⟨x, hxd⟩ : ∃ x, x = lowN K := ⟨_, rfl⟩
  rw [← hxd] at hx hx24
  have hxo := bit_lt hlt hx
  have hsub : Sub (shiftF l K (negF l x)) (n ||| 1) := fun i hi => by
    obtain ⟨y, hy, hy2, rfl⟩ := testBit_shiftF.1 hi
    rw [addF_comm]
    exact (cliP_iff hg).1 hcl y x hy hx24 hy2 hx
  have hc1 := cnt_mono hsub
  rw [cnt_shift hg hlt] at hc1
  have hc2 : cnt (n ||| 1) ≤ cnt n + 1 := by
    cases hb : n.testBit 0
    · have := cnt_or_new hn24 (show 0 < 24 by omega) hb
      rw [show (2 : Nat) ^ 0 = 1 from rfl] at this
      omega
    · have e : n ||| 1 = n := Nat.eq_of_testBit_eq fun i => by
        rw [Nat.testBit_or, one_bit]
        by_cases q : i = 0
        · subst q; rw [hb]; rfl
        · simp [q]
      rw [e]; omega
  omega

/-! ### boundaries -/
/-- pairs of a property -/
def prN (p : Nat → Nat → Bool) (n m : Nat) : Nat := ((List.range n).map (fun x => ((List.range m).filter (fun y => p x y)).length)).sum
theorem len_snoc (q : Nat → Bool) (m : Nat) : ((List.range (m + 1)).filter q).length = ((List.range m).filter q).length + (q m).toNat := by
  rw [List.range_succ, List.filter_append, List.length_append]
  cases h : q m <;> simp [h]
theorem sum_add_map (f g : Nat → Nat) : ∀ L : List Nat, (L.map (fun x => f x + g x)).sum = (L.map f).sum + (L.map g).sum
  | [] => rfl
  | x :: L => by simp only [List.map_cons, List.sum_cons]; rw [sum_add_map f g L]; omega
theorem sum_toNat (q : Nat → Bool) : ∀ L : List Nat, (L.map (fun x => (q x).toNat)).sum = (L.filter q).length
  | [] => rfl
  | x :: L => by
    simp only [List.map_cons, List.sum_cons]
    rw [sum_toNat q L]
    cases h : q x <;> simp [h]; omega
/-- counted by rows or by columns -/
theorem prN_swap (p : Nat → Nat → Bool) (n : Nat) : ∀ m, prN p n m = prN (fun y x => p x y) m n
  | 0 => by
    unfold prN; simp
    induction n with
    | zero => rfl
    | succ n ih => rw [List.range_succ, List.map_append, List.sum_append, ih]; rfl
  | m + 1 => by
    have ih := prN_swap p n m
    unfold prN at ih ⊢
    rw [List.range_succ (n := m), List.map_append, List.sum_append, ← ih]
    have e : (List.range n).map (fun x => ((List.range m ++ [m]).filter (fun y => p x y)).length) = (List.range n).map (fun x => ((List.range m).filter (fun y => p x y)).length + (p x m).toNat) := by
      refine List.map_congr_left fun x _ => ?_
      rw [← List.range_succ]; exact len_snoc _ _
    rw [e, sum_add_map, sum_toNat]
    simp
theorem sum_filter (f : Nat → Nat) (q : Nat → Bool) : ∀ L : List Nat, ((L.filter q).map f).sum = (L.map (fun y => if q y then f y else 0)).sum
  | [] => rfl
  | x :: L => by
    have ih := sum_filter f q L
    cases h : q x
    · rw [List.filter_cons_of_neg (by simp [h]), List.map_cons, List.sum_cons, ih, h]; simp
    · rw [List.filter_cons_of_pos h, List.map_cons, List.map_cons, List.sum_cons, List.sum_cons, ih, h]; simp
theorem fold_sum (f : Nat → Nat) : ∀ (L : List Nat) (s : Nat), L.foldl (fun n y => n + f y) s = s + (L.map f).sum
  | [], s => by simp
  | x :: L, s => by rw [List.foldl_cons, fold_sum f L, List.map_cons, List.sum_cons]; omega
def bdP (l : List Int) (a x y z : Nat) : Bool := x.testBit y && ((shiftF l a y).testBit z && !x.testBit z)
theorem bdN_pairs (l : List Int) (a x : Nat) : bdN l a x = prN (bdP l a x) 24 24 := by
  unfold bdN bdTo prN
  rw [fold_sum (fun y => cnt (andN (shiftF l a y) x)), Nat.zero_add]
  unfold elems
  rw [sum_filter]
  congr 1
  refine List.map_congr_left fun y _ => ?_
  by_cases h : x.testBit y = true
  · rw [if_pos h]
    unfold cnt elems
    congr 1
    refine List.filter_congr fun z _ => ?_
    unfold bdP
    rw [h, andN_bit]; rfl
  · rw [if_neg h]
    symm
    rw [List.length_eq_zero_iff, List.filter_eq_nil_iff]
    intro z _
    unfold bdP
    simp at h
    rw [h]; simp
theorem prN_congr {p q : Nat → Nat → Bool} {n m : Nat} (h : ∀ x y, x < n → y < m → p x y = q x y) : prN p n m = prN q n m := by
  unfold prN
  congr 1
  refine List.map_congr_left fun x hx => ?_
  congr 1
  exact List.filter_congr fun y hy => h x y (List.mem_range.1 hx) (List.mem_range.1 hy)
theorem shift_sym {l : List Int} (hg : isGrp l = true) {a : Nat} (ho : oppF l a = a) {y z : Nat} (hy : y < ord l) (hz : z < ord l) (h : (shiftF l a y).testBit z = true) : (shiftF l a z).testBit y = true := by
  have hO := isGrp_ords hg
  obtain ⟨s, hs, hs2, rfl⟩ := testBit_shiftF.1 h
  refine testBit_shiftF.2 ⟨negF l s, negF_bd hg s, by rw [← ho]; exact testBit_oppF.2 ⟨s, hs, hs2, rfl⟩, ?_⟩
  rw [addF_assoc l hO, addF_neg l hO, addF_zero' hO hy]
/-- a set and its rest have the same boundary -/
theorem bd_rest {l : List Int} {a x : Nat} (h : connB l a = true) (hx : isSetB l x = true) : bdN l a x = bdN l a (fullN l - x) := by
  obtain ⟨a', e, ha, -, hg⟩ := connB_nat h
  have e' : a' = a := by omega
  subst e'
  have hob := ord_bd hg
  have hO := isGrp_ords hg
  obtain ⟨x', e2, hxo, -, -⟩ := isSetB_nat hx
  have e2' : x' = x := by omega
  subst e2'
  have hbit : ∀ i, (fullN l - x').testBit i = (decide (i < ord l) && !x'.testBit i) := fun i => by
    unfold fullN pw
    rw [Nat.sub_sub, Nat.add_comm 1 x', Nat.testBit_two_pow_sub_succ hxo]
  rw [bdN_pairs, bdN_pairs, prN_swap]
  refine prN_congr fun y z hy hz => ?_
  unfold bdP
  rw [hbit, hbit]
  cases h1 : x'.testBit z
  · simp
    by_cases h2 : z < ord l
    · simp [h2]
    · intro _ _
      rw [testBit_ge (shiftF_lt hO a' y) (by omega)]
      intro e; cases e
  · have hzo := bit_lt hxo h1
    cases h2 : x'.testBit y
    · by_cases h3 : y < ord l
      · simp [h3]
        refine bool_eq_of ⟨fun k => shift_sym hg (connB_opp h) hzo h3 k, fun k => shift_sym hg (connB_opp h) h3 hzo k⟩
      · simp [h3]
        rw [testBit_ge (shiftF_lt hO a' z) (by omega)]
    · simp
end Go.Zz
