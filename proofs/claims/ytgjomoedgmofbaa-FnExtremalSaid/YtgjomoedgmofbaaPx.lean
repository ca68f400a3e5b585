/- Least sums and doubles of small groups obey the formula. -/
import Derived.Test.YtgjomoedgmofbaaPw
import Derived.Test.YtgjomoedgmofbaaC25
import Derived.Test.YtgjomoedgmofbaaC7
namespace Go.Zz
open Go.RowKit Go.Proofs

theorem thr_szf1 : (List.range 13).all (fun o => (List.range 13).all (fun n => (List.range 13).all (fun m => Nat.blt o n || Nat.blt o m || Nat.beq n 0 || Nat.beq m 0 || decide (szF o n m = ((((thr o).getD n []).getD m 0 : Nat) : Int))))) = true := by decide +kernel
theorem thr_szf {o n m : Nat} (h : o ≤ 12) (h1 : 1 ≤ n) (h2 : n ≤ o) (h3 : 1 ≤ m) (h4 : m ≤ o) : szF o n m = ((((thr o).getD n []).getD m 0 : Nat) : Int) := by
  have := List.all_eq_true.1 thr_szf1 o (List.mem_range.2 (by omega))
  have := List.all_eq_true.1 this n (List.mem_range.2 (by omega))
  have := List.all_eq_true.1 this m (List.mem_range.2 (by omega))
  rw [blt_no h2, blt_no h4, Bool.false_or, Bool.false_or, Bool.or_eq_true, Bool.or_eq_true, decide_eq_true_iff] at this
  rcases this with (q | q) | q
  · have := Nat.eq_of_beq_eq_true q; omega
  · have := Nat.eq_of_beq_eq_true q; omega
  · exact q
theorem lt_4096 {l : List Int} (h : ord l ≤ 12) {s : Nat} (hs : s < 2 ^ ord l) : s < 4096 := Nat.lt_of_lt_of_le hs (show 2 ^ ord l ≤ 2 ^ 12 from Nat.pow_le_pow_right (by omega) h)
/-- doubles are at least as large as the formula says, and at most as large as can be -/
theorem dbl_bounds {l : List Int} (h : isGrp l = true) (h12 : ord l ≤ 12) {a : Nat} (ha : a < 2 ^ ord l) (h0 : 1 ≤ cnt a) : szF (ord l) (cnt a) (cnt a) ≤ (dblC l a : Int) ∧ 2 * dblC l a ≤ cnt a * (cnt a + 1) := by
  obtain ⟨L, hL, rfl⟩ := small_has h h12
  have hs := dfs_sound (l := castL L) (by omega) (okD_all hL) ha
  have hlt := lt_4096 h12 (sumF_lt (isGrp_ords h) a a)
  unfold chkD at hs
  rw [Bool.and_eq_true, pc_cnt hlt] at hs
  rw [thr_szf h12 h0 (cnt_ord h ha) h0 (cnt_ord h ha)]
  exact ⟨Int.ofNat_le.2 (Nat.le_of_ble_eq_true hs.1), Nat.le_of_ble_eq_true hs.2⟩
/-- sums are at least as large as the formula says -/
theorem pair_bound {l : List Int} (h : isGrp l = true) (h8 : ord l ≤ 8) {a b : Nat} (ha : a < 2 ^ ord l) (hb : b < 2 ^ ord l) (ho : a % 2 = 1) (h1 : 1 ≤ cnt a) (h0 : 1 ≤ cnt b) : szF (ord l) (cnt a) (cnt b) ≤ (prC l a b : Int) := by
  obtain ⟨L, hL, rfl⟩ := small_has h (by omega)
  have hob := ord_bd h
  have hk := List.all_eq_true.1 (okB_all hL h8).1 (a / 2) (List.mem_range.2 (by
    have e : 2 ^ ord (castL L) = 2 * 2 ^ (ord (castL L) - 1) := by rw [← Nat.pow_succ']; congr 1; omega
    omega))
  have e2 : 2 * (a / 2) + 1 = a := by omega
  rw [e2] at hk
  have hs := dfsB_sound (l := castL L) (by omega) ha hk hb
  have hlt := lt_4096 (l := castL L) (by omega) (sumF_lt (isGrp_ords h) a b)
  unfold chkB at hs
  rw [pc_cnt hlt, pc_cnt (lt_4096 (l := castL L) (by omega) ha)] at hs
  rw [thr_szf (by omega) h1 (cnt_ord h ha) h0 (cnt_ord h hb)]
  exact Int.ofNat_le.2 (Nat.le_of_ble_eq_true hs)
/-- and some pair is as small -/
theorem pair_wit {l : List Int} (h : isGrp l = true) (h8 : ord l ≤ 8) {n m : Nat} (h1 : 1 ≤ n) (h2 : n ≤ ord l) (h3 : 1 ≤ m) (h4 : m ≤ ord l) :
    ∃ a b, a < 2 ^ ord l ∧ b < 2 ^ ord l ∧ a % 2 = 1 ∧ b % 2 = 1 ∧ cnt a = n ∧ cnt b = m ∧ (prC l a b : Int) ≤ szF (ord l) n m := by
  obtain ⟨L, hL, rfl⟩ := small_has h (by omega)
  obtain ⟨-, W, hW⟩ := okB_all hL h8
  unfold okW at hW
  have := List.all_eq_true.1 hW n (List.mem_range'_1.2 (by omega))
  have := List.all_eq_true.1 this m (List.mem_range'_1.2 (by omega))
  obtain ⟨⟨a, b⟩, -, hw⟩ := List.any_eq_true.1 this
  unfold witB at hw
  simp only [Bool.and_eq_true] at hw
  obtain ⟨⟨⟨⟨⟨⟨w1, w2⟩, w3⟩, w4⟩, w5⟩, w6⟩, w7⟩ := hw
  have ha : a < 2 ^ ord (castL L) := Nat.le_of_ble_eq_true w5
  have hb : b < 2 ^ ord (castL L) := Nat.le_of_ble_eq_true w6
  rw [pc_cnt (lt_4096 (l := castL L) (by omega) ha)] at w1
  rw [pc_cnt (lt_4096 (l := castL L) (by omega) hb)] at w2
  rw [orRow_sum (by omega) ha hb, pc_cnt (lt_4096 (l := castL L) (by omega) (sumF_lt (isGrp_ords h) a b))] at w7
  refine ⟨a, b, ha, hb, eq_of_beq w3, eq_of_beq w4, eq_of_beq w1, eq_of_beq w2, ?_⟩
  rw [thr_szf (by omega) h1 h2 h3 h4]
  exact Int.ofNat_le.2 (Nat.le_of_ble_eq_true w7)

/-! ### the first least one -/
theorem mem_oddTo {n j a : Nat} : a ∈ oddTo n j ↔ a % 2 = 1 ∧ a / 2 < j ∧ cnt a = n := by
  unfold oddTo
  rw [List.mem_filter, List.mem_map, decide_eq_true_iff]
  constructor
  · rintro ⟨⟨i, hi, rfl⟩, h⟩
    have := List.mem_range.1 hi
    exact ⟨by omega, by omega, h⟩
  · rintro ⟨h1, h2, h3⟩
    exact ⟨⟨a / 2, List.mem_range.2 h2, by omega⟩, h3⟩
theorem half_lt {l : List Int} (h : isGrp l = true) {a : Nat} : a / 2 < halfN l ↔ a < 2 ^ ord l := by
  have hob := ord_bd h
  have e : 2 ^ ord l = 2 * 2 ^ (ord l - 1) := by rw [← Nat.pow_succ']; congr 1; omega
  unfold halfN pw
  omega
theorem fold_least (l : List Int) : ∀ (K : List (Nat × Nat)) (p : P3), (K.foldl (lsStep l) p).s ≤ p.s ∧ (∀ ab ∈ K, (K.foldl (lsStep l) p).s ≤ prC l ab.1 ab.2) ∧ (K.foldl (lsStep l) p = p ∨ ∃ ab ∈ K, K.foldl (lsStep l) p = ⟨ab.1, ab.2, prC l ab.1 ab.2⟩)
  | [], p => ⟨Nat.le_refl _, fun _ h => (by cases h), Or.inl rfl⟩
  | (a, b) :: K, p => by
    rw [List.foldl_cons]
    by_cases e : prC l a b < p.s
    · rw [lsStep_yes e]
      obtain ⟨h1, h2, h3⟩ := fold_least l K ⟨a, b, prC l a b⟩
      refine ⟨Nat.le_trans h1 (Nat.le_of_lt e), fun ab hab => ?_, Or.inr ?_⟩
      · rw [List.mem_cons] at hab
        rcases hab with rfl | hab
        · exact h1
        · exact h2 ab hab
      · rcases h3 with h3 | ⟨ab, hab, h3⟩
        · exact ⟨(a, b), by simp, h3⟩
        · exact ⟨ab, by simp [hab], h3⟩
    · rw [lsStep_no e]
      obtain ⟨h1, h2, h3⟩ := fold_least l K p
      refine ⟨h1, fun ab hab => ?_, ?_⟩
      · rw [List.mem_cons] at hab
        rcases hab with rfl | hab
        · exact Nat.le_trans h1 (Nat.le_of_not_lt e)
        · exact h2 ab hab
      · rcases h3 with h3 | ⟨ab, hab, h3⟩
        · exact Or.inl h3
        · exact Or.inr ⟨ab, by simp [hab], h3⟩
theorem ls_fact {l : List Int} {n m : Int} (h : lsB l n m = true) : ∃ x y : Nat, lsX l n m = x ∧ lsY l n m = y ∧ x < 2 ^ ord l ∧ y < 2 ^ ord l ∧ (cnt x : Int) = n ∧ (cnt y : Int) = m ∧ (cnt (sumF l x y) : Int) = szF (ord l) n m := by
  obtain ⟨hg, h8, hn, hm⟩ := lsB_parts h
  obtain ⟨n, rfl, hn1, hn2⟩ := in_nat hn
  obtain ⟨m, rfl, hm1, hm2⟩ := in_nat hm
  refine ⟨_, _, (ls_yes h).1, (ls_yes h).2, ?_⟩
  obtain ⟨a, b, ha, hb, hao, hbo, hac, hbc, hab⟩ := pair_wit hg h8 hn1 hn2 hm1 hm2
  have hR : lsR l n m = ((oddTo n (halfN l)).flatMap (fun a => (oddTo m (halfN l)).map (fun b => (a, b)))).foldl (lsStep l) ⟨0, 0, 100⟩ := lsOut_flat l _ _ _
  obtain ⟨h1, h2, h3⟩ := fold_least l ((oddTo n (halfN l)).flatMap (fun a => (oddTo m (halfN l)).map (fun b => (a, b)))) ⟨0, 0, 100⟩
  rw [← hR] at h1 h2 h3
  have hin : (a, b) ∈ (oddTo n (halfN l)).flatMap (fun a => (oddTo m (halfN l)).map (fun b => (a, b))) :=
    List.mem_flatMap.2 ⟨a, mem_oddTo.2 ⟨hao, (half_lt hg).2 ha, hac⟩, List.mem_map.2 ⟨b, mem_oddTo.2 ⟨hbo, (half_lt hg).2 hb, hbc⟩, rfl⟩⟩
  have h4 := h2 _ hin
  have h5 := prC_le hg a b
  rcases h3 with h3 | ⟨⟨x, y⟩, hxy, h3⟩
  · rw [h3] at h4
    have : (100 : Nat) ≤ prC l a b := h4
    omega
  · obtain ⟨u, hu, hv⟩ := List.mem_flatMap.1 hxy
    obtain ⟨v, hv, e⟩ := List.mem_map.1 hv
    cases e
    obtain ⟨u1, u2, u3⟩ := mem_oddTo.1 hu
    obtain ⟨v1, v2, v3⟩ := mem_oddTo.1 hv
    rw [half_lt hg] at u2 v2
    rw [h3]
    rw [h3] at h4
    refine ⟨u2, v2, by rw [u3], by rw [v3], ?_⟩
    have h6 := pair_bound hg h8 u2 v2 u1 (by omega) (by omega)
    rw [u3, v3] at h6
    have h7 : prC l x y ≤ prC l a b := h4
    have h8 : (prC l x y : Int) = szF (ord l) n m := by omega
    exact h8
theorem ld_fold (l : List Int) : ∀ (L : List Nat) (p : Nat × Nat), (L.foldl (fun p a => if dblC l a < p.2 then (a, dblC l a) else p) p = p ∨ (L.foldl (fun p a => if dblC l a < p.2 then (a, dblC l a) else p) p).1 ∈ L) ∧ ((∃ a ∈ L, dblC l a < p.2) → (L.foldl (fun p a => if dblC l a < p.2 then (a, dblC l a) else p) p).1 ∈ L)
  | [], _ => ⟨Or.inl rfl, fun ⟨_, h, _⟩ => (by cases h)⟩
  | a :: L, p => by
    rw [List.foldl_cons]
    by_cases e : dblC l a < p.2
    · rw [if_pos e]
      have h1 := (ld_fold l L (a, dblC l a)).1
      have h2 : (L.foldl (fun p a => if dblC l a < p.2 then (a, dblC l a) else p) (a, dblC l a)).1 ∈ a :: L := by
        rcases h1 with h1 | h1
        · rw [h1]; simp
        · exact List.mem_cons_of_mem _ h1
      exact ⟨Or.inr h2, fun _ => h2⟩
    · rw [if_neg e]
      obtain ⟨h1, h2⟩ := ld_fold l L p
      refine ⟨?_, fun ⟨b, hb, h⟩ => ?_⟩
      · rcases h1 with h1 | h1
        · exact Or.inl h1
        · exact Or.inr (List.mem_cons_of_mem _ h1)
      · rw [List.mem_cons] at hb
        rcases hb with rfl | hb
        · exact absurd h e
        · exact List.mem_cons_of_mem _ (h2 ⟨b, hb, h⟩)
theorem md_fold (l : List Int) (B : Int) : ∀ (L : List Nat) (p : Int), (∀ a ∈ L, (dblC l a : Int) ≤ B) → p ≤ B → p ≤ L.foldl (fun b a => if b < (dblC l a : Int) then (dblC l a : Int) else b) p ∧ L.foldl (fun b a => if b < (dblC l a : Int) then (dblC l a : Int) else b) p ≤ B ∧ ∀ a ∈ L, (dblC l a : Int) ≤ L.foldl (fun b a => if b < (dblC l a : Int) then (dblC l a : Int) else b) p
  | [], _, _, h => ⟨Int.le_refl _, h, fun _ h => (by cases h)⟩
  | a :: L, p, hB, hp => by
    rw [List.foldl_cons]
    have ha := hB a (by simp)
    by_cases e : p < (dblC l a : Int)
    · rw [if_pos e]
      obtain ⟨h1, h2, h3⟩ := md_fold l B L (dblC l a : Int) (fun b hb => hB b (by simp [hb])) ha
      refine ⟨by omega, h2, fun b hb => ?_⟩
      rw [List.mem_cons] at hb
      rcases hb with rfl | hb
      · exact h1
      · exact h3 b hb
    · rw [if_neg e]
      obtain ⟨h1, h2, h3⟩ := md_fold l B L p (fun b hb => hB b (by simp [hb])) hp
      refine ⟨h1, h2, fun b hb => ?_⟩
      rw [List.mem_cons] at hb
      rcases hb with rfl | hb
      · omega
      · exact h3 b hb
theorem ones_cnt : (List.range 13).all (fun e => Nat.beq e 0 || ((cnt (2 ^ e - 1) == e) && ((2 ^ e - 1) % 2 == 1))) = true := by decide +kernel
theorem dbl_fact {l : List Int} {n : Int} (h : dblB l n = true) : ∃ y : Nat, leastF l n = y ∧ y < 2 ^ ord l ∧ (cnt y : Int) = n ∧ (cnt (sumF l y y) : Int) ≤ mostF l n ∧ szF (ord l) n n ≤ (cnt (sumF l y y) : Int) ∧ 2 * mostF l n ≤ n * (n + 1) := by
  have hp := h
  unfold dblB at hp
  simp only [Bool.and_eq_true, decide_eq_true_eq] at hp
  obtain ⟨⟨hg, h12⟩, hn⟩ := hp
  obtain ⟨n, rfl, hn1, hn2⟩ := in_nat hn
  have hob := ord_bd hg
  refine ⟨_, leastF_yes h, ?_⟩
  rw [mostF_yes h]
  have hw := List.all_eq_true.1 ones_cnt n (List.mem_range.2 (by omega))
  rw [Bool.or_eq_true, Bool.and_eq_true] at hw
  have hw2 : cnt (2 ^ n - 1) = n ∧ (2 ^ n - 1) % 2 = 1 := by
    rcases hw with q | q
    · have := Nat.eq_of_beq_eq_true q; omega
    · exact ⟨eq_of_beq q.1, eq_of_beq q.2⟩
  have hlt : 2 ^ n - 1 < 2 ^ ord l := by
    have h1 : 2 ^ n ≤ 2 ^ ord l := Nat.pow_le_pow_right (by omega) hn2
    have h2 := Nat.two_pow_pos n
    omega
  have hin : 2 ^ n - 1 ∈ oddTo n (halfN l) := mem_oddTo.2 ⟨hw2.2, (half_lt hg).2 hlt, hw2.1⟩
  have hy := (ld_fold l (oddTo n (halfN l)) (0, 100)).2 ⟨_, hin, by have := dblC_le hg (2 ^ n - 1); show dblC l (2 ^ n - 1) < 100; omega⟩
  obtain ⟨y1, y2, y3⟩ := mem_oddTo.1 hy
  rw [half_lt hg] at y2
  obtain ⟨B, hB⟩ : ∃ B : Int, B = ((n * (n + 1) / 2 : Nat) : Int) := ⟨_, rfl⟩
  have hall : ∀ a ∈ oddTo n (halfN l), (dblC l a : Int) ≤ B := fun a ha => by
    obtain ⟨a1, a2, a3⟩ := mem_oddTo.1 ha
    rw [half_lt hg] at a2
    have := (dbl_bounds hg h12 a2 (by omega)).2
    rw [a3] at this
    rw [hB]
    exact Int.ofNat_le.2 ((Nat.le_div_iff_mul_le (by omega)).2 (by omega))
  obtain ⟨m1, m2, m3⟩ := md_fold l B (oddTo n (halfN l)) 0 hall (by rw [hB]; omega)
  have hd := (dbl_bounds hg h12 y2 (by omega)).1
  refine ⟨y2, by exact congrArg (fun k : Nat => (k : Int)) y3, m3 _ hy, ?_, ?_⟩
  · rw [y3] at hd; exact hd
  · have h1 : mdF l (oddTo n (halfN l)) ≤ B := m2
    have h2 : n * (n + 1) / 2 * 2 ≤ n * (n + 1) := Nat.div_mul_le_self _ _
    have h3 : ((n * (n + 1) : Nat) : Int) = (n : Int) * ((n : Int) + 1) := by simp
    rw [← h3]
    omega
end Go.Zz
