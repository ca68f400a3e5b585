/- EqualGroups, MeetingBound. -/
import Derived.Test.YtdlbbpeahicakaaGreatGr2
import Derived.Test.YtdlbbpeahicakaaGreatGr5
import Derived.Test.YtdlbbpeahicakaaGreatGr4
import Derived.Deep.RegionHeld3
import Derived.Deep.RegionWith
namespace Go.Zz
open Go.RowKit Go.Proofs
set_option maxHeartbeats 400000

--%call EqualGroups 136 ext EqualGroups_any _ _ _ _ _ ({0}) ({1})
theorem EqualGroups_any (v u : Value) (l m : List Int) (w : World) (h : Ints w v l) (k : Ints w u m) :
    Calls Tryz.prog 136 #[.agg #[v], .agg #[u]] w fun e w' => e = .returned (.bool (decide (l = m))) ∧ Ext w w' := by
  have hE0 := ((Ext.refl w).alloc (.cells #[v] 27)).alloc (.cells #[u] 27)
  have hE := Ext.refl ((w.alloc (.cells #[v] 27)).alloc (.cells #[u] 27))
  have hI1 := h.ext hE0
  have hI2 := k.ext hE0
  clear h k
  go_enter Tryz.func136, Tryz.ntmps136
  go_wp2_with (first | (go_at_call 137; refine (slicesEqual_any _ _ _ _ _ (hI1) (hI2)).mono ?_; rintro e w' ⟨rfl, hE'⟩; replace hE := hE.trans hE'; clear hE'))
  go_ret
  exact ⟨ret_bool rfl, hE0.trans hE⟩

--%call sEqualGroups 87 ext sEqualGroups_any _ _ _ _ _ ({0}) ({1})
theorem sEqualGroups_any (v u : Value) (l m : List Int) (w : World) (h : Ints w v l) (k : Ints w u m) :
    Calls Tryz.prog 87 #[.agg #[v], .agg #[u]] w fun e w' => e = .returned (.bool (decide (l = m))) ∧ Ext w w' := by
  obtain ⟨ao, c, adr, rfl, hlen, hadr, hcell⟩ := h.op
  have hix := ints_index (c := c) elI szI hadr
  obtain ⟨ao2, c2, adr2, rfl, hlen2, hadr2, hcell2⟩ := k.op
  have hix2 := ints_index (c := c2) elI szI hadr2
  clear hadr hadr2 h k
  obtain ⟨wb, hwb⟩ : ∃ wb, wb = (w.alloc (.cells #[.slice ao l.length c] 27)).alloc (.cells #[.slice ao2 m.length c2] 27) := ⟨_, rfl⟩
  have hE0 := ((Ext.refl w).alloc (.cells #[.slice ao l.length c] 27)).alloc (.cells #[.slice ao2 m.length c2] 27)
  have k1 := cell_in (show wb.cell? ⟨w.heap.size, 0, none⟩ = some (.slice ao l.length c) by rw [hwb]; simp [go_sem])
  have k2 := cell_in (show wb.cell? ⟨w.heap.size + 1, 0, none⟩ = some (.slice ao2 m.length c2) by rw [hwb]; simp [go_sem])
  have k1L := fun U => k1 _ (lat_ext wb U)
  have k2L := fun U => k2 _ (lat_ext wb U)
  rw [← hwb] at hE0
  have hE := Ext.refl wb
  have Hwb := Lib.hid hwb
  clear hwb
  by_cases hl : l.length = m.length
  · have hl1 : ((l.length : Int) != (m.length : Int)) = false := by simp [hl]
    have Hl := Lib.hid hl
    clear hl
    go_enter Tryz.func87, Tryz.ntmps87
    go_wp2_with fail
    rw [← Hwb.out]
    go_loopw [5] (fun i wr => ∃ k : Nat, k ≤ l.length ∧ (∀ j, j < k → nth l j = nth m j) ∧ i = .int .i64 k ∧ Ext wb wr) (fun i _ => l.length - (intOf i).toNat)
    case atStart => exact ⟨0, by omega, by omega, rfl, hE⟩
    case round =>
      clear hE
      obtain ⟨k, hk, hall, rfl, hE⟩ := hrel
      have Hall := Lib.hid hall
      clear hall
      have k1' := k1 _ hE
      have k2' := k2 _ hE
      by_cases hlt : k < l.length
      · have hlt2 : k < m.length := by have := Hl.out; omega
        have hck := fun U => hcell k _ hlt (hE0.trans (lat_ext wb U))
        have hck2 := fun U => hcell2 k _ hlt2 (hE0.trans (lat_ext wb U))
        by_cases he : nth l k = nth m k
        · have he1 : (nth l k != nth m k) = false := by simp [he]
          have He := Lib.hid he
          clear he
          go_wp2_with fail
          (refine wp_region_lat (wb) (by kernel_rfl) (by kernel_rfl) hE ?_); (repeat (go_big_quiet_step (first | fail))); (refine wpQuiet_nil ?_); (intro W hE'); (replace hE := lat_of hE'); (clear hE')
          go_wp2_with fail
          go_roundw
          case rel => exact ⟨k + 1, by omega, fun j hj => by by_cases e : j = k; (subst e; exact He.out); exact Hall.out j (by omega), by go_num, hE⟩
          case measure => (simp [intOf]; omega)
        · have he1 : (nth l k != nth m k) = true := by simp [he]
          have He := Lib.hid he
          clear he
          go_wp2_with fail
          (refine wp_region_lat (wb) (by kernel_rfl) (by kernel_rfl) hE ?_); (repeat (go_big_quiet_step (first | fail))); (refine wpQuiet_nil ?_); (intro W hE'); (replace hE := lat_of hE'); (clear hE')
          go_wp2_with fail
          go_ret
          exact ⟨ret_bool (by symm; rw [decide_eq_false_iff_not]; intro e; exact He.out (by rw [e])), hE0.trans hE⟩
      · have hkl : k = l.length := by omega
        subst hkl
        go_wp2_with fail
        go_ret
        exact ⟨ret_bool (by symm; rw [decide_eq_true_iff]; exact ext_nth Hl.out Hall.out), hE0.trans hE⟩
  · have hl1 : ((l.length : Int) != (m.length : Int)) = true := by simp; omega
    have Hl := Lib.hid hl
    clear hl
    go_enter Tryz.func87, Tryz.ntmps87
    go_wp2_with fail
    rw [← Hwb.out]
    go_ret
    exact ⟨ret_bool (by symm; rw [decide_eq_false_iff_not]; intro e; exact Hl.out (by rw [e])), hE0⟩

end Go.Zz

/- Kept: the laws' helpers, EqualKept. -/
namespace Go.Zz
open Go.RowKit Go.Proofs
set_option maxHeartbeats 400000

/-- a value of type Kept -/
def IsK (w : World) (c : Value) (l : List Int) (n : Int) (m : List Int) : Prop := ∃ v u, c = .agg #[v, .int .i64 n, u] ∧ Ints w v l ∧ Ints w u m
theorem IsK.ext {w w' : World} {c : Value} {l m : List Int} {n : Int} (h : IsK w c l n m) (hE : Ext w w') : IsK w' c l n m := by
  obtain ⟨v, u, rfl, h1, h2⟩ := h; exact ⟨v, u, rfl, h1.ext hE, h2.ext hE⟩
def szK (l m : List Int) (left : Int) : Int := if szL l left < 0 then -1 else szL m (szL l left)
theorem szL_cases (l : List Int) {left : Int} (h : 0 ≤ left) : szL l left = -1 ∨ (0 ≤ szL l left ∧ szL l left ≤ left) := by unfold szL; split <;> omega


def eqK (l m : List Int) (n : Int) (l' m' : List Int) (n' : Int) : Bool := decide (l = l' ∧ n = n' ∧ m = m')
end Go.Zz

/- Plain laws: what the table of sums holds, and how it changes. -/
namespace Go.Zz
open Go.RowKit Go.Proofs
set_option maxHeartbeats 400000

def bumps (t : List Int) (S : List Nat) : List Int := S.foldl bump t
theorem bumps_len : ∀ (S : List Nat) (t : List Int), (bumps t S).length = t.length
  | [], _ => rfl
  | z :: S, t => by show (bumps (bump t z) S).length = _; rw [bumps_len S, bump_len]
theorem nth_bumps : ∀ (S : List Nat) (t : List Int) (z : Nat), (∀ x ∈ S, x < t.length) → nth (bumps t S) z = nth t z + (S.count z : Int)
  | [], t, z, _ => by simp [bumps]
  | x :: S, t, z, h => by
    show nth (bumps (bump t x) S) z = _
    rw [nth_bumps S _ z (fun y hy => by rw [bump_len]; exact h y (by simp [hy])), nth_bump t x z (h x (by simp)), List.count_cons]
    by_cases e : z = x
    · subst e; simp; omega
    · have e' : ¬ x = z := fun h => e h.symm
      simp [e, e']
def sumsL (l : List Int) (L M : List Nat) : List Nat := L.flatMap (fun x => M.map (fun y => addF l x y))
theorem bumps_append (t : List Int) (A B : List Nat) : bumps t (A ++ B) = bumps (bumps t A) B := by unfold bumps; rw [List.foldl_append]
theorem tabIn_bumps (l : List Int) (x : Nat) (t : List Int) (L : List Nat) : tabIn l x t L = bumps t (L.map (fun y => addF l x y)) := by
  unfold tabIn bumps; rw [List.foldl_map]
theorem tabOut_bumps (l : List Int) (b : Nat) : ∀ (L : List Nat) (t : List Int), tabOut l b t L = bumps t (sumsL l L (elems b))
  | [], _ => rfl
  | x :: L, t => by
    show tabOut l b (tabIn l x t (elems b)) L = _
    rw [tabOut_bumps l b L, tabIn_bumps]
    unfold sumsL; rw [List.flatMap_cons, bumps_append]
def tabN (l : List Int) (a b : Nat) : List Int := tabOut l b (List.replicate (ord l) 0) (elems a)
theorem tabN_len (l : List Int) (a b : Nat) : (tabN l a b).length = ord l := by unfold tabN; rw [tabOut_bumps, bumps_len]; simp
theorem sumsL_lt {l : List Int} (h : isGrp l = true) {L M : List Nat} : ∀ x ∈ sumsL l L M, x < ord l := by
  intro x hx
  obtain ⟨u, _, hv⟩ := List.mem_flatMap.1 hx
  obtain ⟨y, _, rfl⟩ := List.mem_map.1 hv
  exact addF_lt l (isGrp_ords h) _ _
theorem nth_zeros (n i : Nat) : nth (List.replicate n 0) i = 0 := by
  unfold nth
  simp only [List.getD_eq_getElem?_getD, List.getElem?_replicate]
  split <;> simp
theorem nth_tabN {l : List Int} (h : isGrp l = true) (a b z : Nat) : nth (tabN l a b) z = ((sumsL l (elems a) (elems b)).count z : Int) := by
  unfold tabN
  rw [tabOut_bumps, nth_bumps _ _ _ (by intro x hx; rw [List.length_replicate]; exact sumsL_lt h x hx), nth_zeros]; simp
/-- how often z is a sum -/
def cN (l : List Int) (L M : List Nat) (z : Nat) : Nat := (sumsL l L M).count z
theorem cN_cons (l : List Int) (x : Nat) (L M : List Nat) (z : Nat) : cN l (x :: L) M z = (M.map (fun y => addF l x y)).count z + cN l L M z := by
  unfold cN sumsL; rw [List.flatMap_cons, List.count_append]
theorem cN_cons_right (l : List Int) (x : Nat) (M : List Nat) (z : Nat) : ∀ L : List Nat, cN l L (x :: M) z = (L.map (fun u => addF l u x)).count z + cN l L M z
  | [] => by simp [cN, sumsL]
  | u :: L => by
    rw [cN_cons, cN_cons, cN_cons_right l x M z L, List.map_cons, List.map_cons, List.count_cons, List.count_cons]; omega
theorem cN_perm {l : List Int} {L L' M M' : List Nat} (hL : L.Perm L') (hM : M.Perm M') (z : Nat) : cN l L M z = cN l L' M' z := by
  have h1 : cN l L M z = cN l L' M z := (hL.flatMap_right _).count_eq z
  rw [h1]
  have h2 : ∀ K : List Nat, cN l K M z = cN l K M' z := by
    intro K
    induction K with
    | nil => rfl
    | cons u K ih => rw [cN_cons, cN_cons, ih, (hM.map _).count_eq z]
  exact h2 L'
theorem elems_put {a x : Nat} (hx : x < 24) (h : a.testBit x = false) : (elems (a ||| 2 ^ x)).Perm (x :: elems a) := by
  rw [List.perm_ext_iff_of_nodup (elems_nodup _) (List.nodup_cons.2 ⟨(fun e => absurd (mem_elems.1 e).2 (by rw [h]; simp)), elems_nodup a⟩)]
  intro i
  rw [mem_elems, List.mem_cons, mem_elems, Nat.testBit_or, Nat.testBit_two_pow]
  by_cases e : i = x
  · subst e; simp [hx]
  · have e' : ¬ x = i := fun h => e h.symm
    simp [e, e']
theorem cN_put {l : List Int} {a x : Nat} (hx : x < 24) (h : a.testBit x = false) (z : Nat) :
    cN l (elems (a ||| 2 ^ x)) (elems (a ||| 2 ^ x)) z = cN l (elems a) (elems a) z + 2 * ((elems a).map (fun y => addF l x y)).count z + (if addF l x x = z then 1 else 0) := by
  have hp := elems_put hx h
  rw [cN_perm hp hp, cN_cons, cN_cons_right, List.map_cons, List.count_cons]
  have e : (elems a).map (fun u => addF l u x) = (elems a).map (fun y => addF l x y) := by
    apply List.map_congr_left; intro u _; exact addF_comm l u x
  rw [e]
  by_cases e2 : addF l x x = z
  · simp [e2]; omega
  · simp [e2]; omega
/-- an amount is added at a place -/
def bumpN (t : List Int) (z : Nat) (m : Int) : List Int := t.set z (nth t z + m)
theorem bumpN_len (t : List Int) (z : Nat) (m : Int) : (bumpN t z m).length = t.length := by simp [bumpN]
theorem nth_bumpN (t : List Int) (z i : Nat) (m : Int) (hz : z < t.length) : nth (bumpN t z m) i = if i = z then nth t z + m else nth t i := by
  unfold bumpN nth
  simp only [List.getD_eq_getElem?_getD, List.getElem?_set]
  by_cases h : i = z
  · subst h; simp [hz]
  · have h' : ¬ z = i := fun e => h e.symm
    simp [h, h']
def chgL (l : List Int) (x : Nat) (n : Int) (t : List Int) (L : List Nat) : List Int := L.foldl (fun t y => bumpN t (addF l x y) (2 * n)) t
theorem chgL_snoc (l : List Int) (x : Nat) (n : Int) (t : List Int) (L : List Nat) (y : Nat) : chgL l x n t (L ++ [y]) = bumpN (chgL l x n t L) (addF l x y) (2 * n) := by
  unfold chgL; rw [List.foldl_append]; rfl
theorem chgL_len (l : List Int) (x : Nat) (n : Int) : ∀ (L : List Nat) (t : List Int), (chgL l x n t L).length = t.length
  | [], _ => rfl
  | y :: L, t => by show (chgL l x n (bumpN t (addF l x y) (2 * n)) L).length = _; rw [chgL_len l x n L, bumpN_len]
theorem nth_chgL {l : List Int} (h : isGrp l = true) (x : Nat) (n : Int) (z : Nat) : ∀ (L : List Nat) (t : List Int), t.length = ord l → nth (chgL l x n t L) z = nth t z + 2 * n * ((L.map (fun y => addF l x y)).count z : Int)
  | [], t, _ => by simp [chgL]
  | y :: L, t, hl => by
    have hz : addF l x y < t.length := by rw [hl]; exact addF_lt l (isGrp_ords h) _ _
    show nth (chgL l x n (bumpN t (addF l x y) (2 * n)) L) z = _
    rw [nth_chgL h x n z L _ (by rw [bumpN_len]; exact hl), nth_bumpN _ _ _ _ hz, List.map_cons, List.count_cons]
    by_cases e : z = addF l x y
    · subst e; simp [Int.mul_add]; omega
    · have e' : ¬ addF l x y = z := fun h => e h.symm
      simp [e, e']
def chgF (l : List Int) (x : Nat) (n : Int) (t : List Int) (L : List Nat) : List Int := bumpN (chgL l x n t L) (addF l x x) n
theorem chgF_len (l : List Int) (x : Nat) (n : Int) (t : List Int) (L : List Nat) : (chgF l x n t L).length = t.length := by unfold chgF; rw [bumpN_len, chgL_len]
theorem nth_chgF {l : List Int} (h : isGrp l = true) (x : Nat) (n : Int) (z : Nat) (L : List Nat) (t : List Int) (hl : t.length = ord l) :
    nth (chgF l x n t L) z = nth t z + 2 * n * ((L.map (fun y => addF l x y)).count z : Int) + (if addF l x x = z then n else 0) := by
  have hz : addF l x x < (chgL l x n t L).length := by rw [chgL_len, hl]; exact addF_lt l (isGrp_ords h) _ _
  unfold chgF
  rw [nth_bumpN _ _ _ _ hz]
  by_cases e : z = addF l x x
  · subst e; rw [nth_chgL h x n _ L t hl]; simp
  · have e' : ¬ addF l x x = z := fun h => e h.symm
    rw [if_neg e, if_neg e', nth_chgL h x n z L t hl]; omega
theorem tab_put {l : List Int} (h : isGrp l = true) {a x : Nat} (hx : x < 24) (hb : a.testBit x = false) : chgF l x 1 (tabN l a a) (elems a) = tabN l (a ||| 2 ^ x) (a ||| 2 ^ x) := by
  refine ext_nth (by rw [chgF_len, tabN_len, tabN_len]) fun z _ => ?_
  rw [nth_chgF h x 1 z _ _ (tabN_len l a a), nth_tabN h, nth_tabN h]
  have := cN_put (l := l) hx hb z
  unfold cN at this
  rw [this]
  push_cast
  by_cases e : addF l x x = z <;> simp [e]
theorem put_back {a x : Nat} (hb : a.testBit x = true) : andN a (2 ^ x) ||| 2 ^ x = a := by
  apply Nat.eq_of_testBit_eq; intro i
  rw [Nat.testBit_or, andN_bit, Nat.testBit_two_pow]
  by_cases e : x = i
  · subst e; simp [hb]
  · simp [e]
theorem andN_self_bit (a x : Nat) : (andN a (2 ^ x)).testBit x = false := by rw [andN_bit, Nat.testBit_two_pow]; simp
theorem tab_take {l : List Int} (h : isGrp l = true) {a x : Nat} (hx : x < 24) (hb : a.testBit x = true) : chgF l x (-1) (tabN l a a) (elems (andN a (2 ^ x))) = tabN l (andN a (2 ^ x)) (andN a (2 ^ x)) := by
  refine ext_nth (by rw [chgF_len, tabN_len, tabN_len]) fun z _ => ?_
  rw [nth_chgF h x (-1) z _ _ (tabN_len l a a), nth_tabN h, nth_tabN h]
  have := cN_put (l := l) hx (andN_self_bit a x) z
  rw [put_back hb] at this
  unfold cN at this
  rw [this]
  push_cast
  by_cases e : addF l x x = z <;> simp [e] <;> omega
theorem andN_none {a x : Nat} (hb : a.testBit x = false) : andN a (2 ^ x) = a := by
  apply Nat.eq_of_testBit_eq; intro i
  rw [andN_bit, Nat.testBit_two_pow]
  by_cases e : x = i
  · subst e; simp [hb]
  · simp [e]
/-- the places of positive numbers below k -/
def posTo (t : List Int) (k : Nat) : Nat := bset ((List.range k).filter (fun i => decide (0 < nth t i)))
theorem posTo_zero (t : List Int) : posTo t 0 = 0 := rfl
theorem posTo_yes {t : List Int} {k : Nat} (h : 0 < nth t k) : posTo t (k + 1) = posTo t k ||| 2 ^ k := by
  unfold posTo; rw [List.range_succ, List.filter_append]; simp only [List.filter_cons, List.filter_nil, h, decide_true, if_true]; exact bset_snoc _ _
theorem posTo_no {t : List Int} {k : Nat} (h : ¬ 0 < nth t k) : posTo t (k + 1) = posTo t k := by
  unfold posTo; rw [List.range_succ, List.filter_append]; simp [h]
theorem posTo_lt (t : List Int) (k : Nat) : posTo t k < 2 ^ k := by
  refine bset_lt fun x hx => ?_
  exact List.mem_range.1 (List.mem_filter.1 hx).1
theorem posTo_tab {l : List Int} (h : isGrp l = true) (a b : Nat) : posTo (tabN l a b) (ord l) = sumF l a b := by
  apply Nat.eq_of_testBit_eq; intro z
  refine bool_eq_of ?_
  unfold posTo
  rw [testBit_bset, decide_eq_true_iff, List.mem_filter, decide_eq_true_iff, nth_tabN h, testBit_sumF, List.mem_range]
  have e : 0 < ((sumsL l (elems a) (elems b)).count z : Int) ↔ z ∈ sumsL l (elems a) (elems b) := by
    rw [← List.count_pos_iff]; omega
  rw [e]
  constructor
  · rintro ⟨_, hz⟩
    obtain ⟨x, hx, hv⟩ := List.mem_flatMap.1 hz
    obtain ⟨y, hy, rfl⟩ := List.mem_map.1 hv
    exact ⟨x, y, (mem_elems.1 hx).1, (mem_elems.1 hx).2, (mem_elems.1 hy).1, (mem_elems.1 hy).2, rfl⟩
  · rintro ⟨x, y, h1, h2, h3, h4, rfl⟩
    exact ⟨addF_lt l (isGrp_ords h) _ _, List.mem_flatMap.2 ⟨x, mem_elems.2 ⟨h1, h2⟩, List.mem_map.2 ⟨y, mem_elems.2 ⟨h3, h4⟩, rfl⟩⟩⟩
/-- the sum of the squares of the first k -/
def sqTo (t : List Int) : Nat → Int
  | 0 => 0
  | k + 1 => sqTo t k + nth t k * nth t k
theorem sqTo_succ (t : List Int) (k : Nat) : sqTo t (k + 1) = sqTo t k + nth t k * nth t k := rfl
theorem sums_len (L M : List Nat) (l : List Int) : (sumsL l L M).length = L.length * M.length := by
  unfold sumsL
  induction L with
  | nil => simp
  | cons x L ih => rw [List.flatMap_cons, List.length_append, ih, List.length_map, List.length_cons, Nat.succ_mul]; omega
theorem tabN_bd {l : List Int} (h : isGrp l = true) (a b z : Nat) : 0 ≤ nth (tabN l a b) z ∧ nth (tabN l a b) z ≤ 576 := by
  rw [nth_tabN h]
  have h1 := List.count_le_length (a := z) (l := sumsL l (elems a) (elems b))
  rw [sums_len] at h1
  have h2 : (elems a).length * (elems b).length ≤ 24 * 24 := Nat.mul_le_mul (elems_len a) (elems_len b)
  omega
theorem sq_bd {x : Int} (h0 : 0 ≤ x) (h : x ≤ 576) : 0 ≤ x * x ∧ x * x ≤ 331776 :=
  ⟨Int.mul_nonneg h0 h0, by have := Int.mul_le_mul h h h0 (by omega : (0:Int) ≤ 576); omega⟩
theorem sqTo_bd {l : List Int} (h : isGrp l = true) (a b : Nat) : ∀ k, 0 ≤ sqTo (tabN l a b) k ∧ sqTo (tabN l a b) k ≤ 331776 * k
  | 0 => by simp [sqTo]
  | k + 1 => by
    have ih := sqTo_bd h a b k
    obtain ⟨h1, h2⟩ := tabN_bd h a b k
    have := sq_bd h1 h2
    rw [sqTo_succ]; push_cast; omega
theorem tabF_N {l : List Int} {a b : Nat} (h : (isSetB l a && isSetB l b) = true) : tabF l a b = tabN l a b := tabF_yes h
/-- whether counts are those that are kept -/
def keptB (l : List Int) (n : Int) (m : List Int) : Bool := isSetB l n && decide (m = tabF l n n)
theorem keptB_no {l : List Int} {n : Int} {m : List Int} (h : isSetB l n = false) : keptB l n m = false := by unfold keptB; rw [h]; rfl
theorem keptB_yes {l : List Int} {n : Int} {m : List Int} (h : isSetB l n = true) : keptB l n m = decide (m = tabF l n n) := by unfold keptB; rw [h]; rfl
theorem keptB_nat {l : List Int} {n : Int} {m : List Int} (h : keptB l n m = true) : ∃ a : Nat, n = a ∧ a < 2 ^ ord l ∧ a < 2 ^ 24 ∧ isGrp l = true ∧ m = tabN l a a ∧ isSetB l a = true := by
  unfold keptB at h
  obtain ⟨h1, h2⟩ := Bool.and_eq_true_iff.1 h
  obtain ⟨a, rfl, h3, h4, h5⟩ := isSetB_nat h1
  exact ⟨a, rfl, h3, h4, h5, by rw [of_decide_eq_true h2, tabF_N (by rw [h1]; rfl)], h1⟩
def engF (l : List Int) (n : Int) (m : List Int) : Int := if keptB l n m then sqTo m (ord l) else -1
theorem engF_no {l : List Int} {n : Int} {m : List Int} (h : keptB l n m = false) : engF l n m = -1 := by unfold engF; rw [h]; rfl
theorem engF_yes {l : List Int} {n : Int} {m : List Int} (h : keptB l n m = true) : engF l n m = sqTo m (ord l) := by unfold engF; rw [if_pos h]
def sukF (l : List Int) (n : Int) (m : List Int) : Int := if keptB l n m then (sumF l n.toNat n.toNat : Int) else -1
theorem sukF_no {l : List Int} {n : Int} {m : List Int} (h : keptB l n m = false) : sukF l n m = -1 := by unfold sukF; rw [h]; rfl
theorem sukF_yes {l : List Int} {a : Nat} {m : List Int} (h : keptB l a m = true) : sukF l a m = (sumF l a a : Int) := by unfold sukF; rw [if_pos h]; rfl
end Go.Zz

/- The table of sums of the reference; kept counts. -/
namespace Go.Zz
open Go.RowKit Go.Proofs
set_option maxHeartbeats 400000

theorem lat_cell {w : World} {p : Addr} {x : Value} (h : w.cell? p = some x) (U : World) : (Lat w U).cell? p = some x := (lat_ext w U).cell h
end Go.Zz

/- Kept counts: IsKept. -/
namespace Go.Zz
open Go.RowKit Go.Proofs
set_option maxHeartbeats 400000

end Go.Zz

/- Marks in what is owned: groups. -/
namespace Go.Zz
open Go.RowKit Go.Proofs
/-- what lies in another block stays -/
theorem Own.kept {TI : TypeId} {w0 w w' : World} {v : Value} {l : List Int} {row : Option Nat} (h : Own TI w0 w v l) (hg : w.grownBy w' row) (hne : v.ownBlock = none ∨ v.ownBlock ≠ row) : Own TI w0 w' v l :=
  ⟨h.1.kept hg hne, h.2⟩
theorem blk_ne {TI : TypeId} {a b c d : World} {u v : Value} {l m : List Int} (h : Own TI a b u l) (k : Own TI c d v m) (hs : b.heap.size ≤ c.heap.size) : u.ownBlock = none ∨ u.ownBlock ≠ v.ownBlock := by
  cases hu : u.ownBlock with
  | none => exact Or.inl rfl
  | some i =>
    refine Or.inr fun e => ?_
    have h1 := (h.blk i hu).2
    have h2 := (k.blk i e.symm).1
    omega
theorem blk_ne' {TI : TypeId} {a b c d : World} {u v : Value} {l m : List Int} (h : Own TI a b u l) (k : Own TI c d v m) (hs : d.heap.size ≤ a.heap.size) : u.ownBlock = none ∨ u.ownBlock ≠ v.ownBlock := by
  cases hu : u.ownBlock with
  | none => exact Or.inl rfl
  | some i =>
    refine Or.inr fun e => ?_
    have h1 := (h.blk i hu).1
    have h2 := (k.blk i e.symm).2
    omega
end Go.Zz

/- Kept counts that are made new. -/
namespace Go.Zz
open Go.RowKit Go.Proofs
set_option maxHeartbeats 1000000
set_option maxRecDepth 20000

/-- a value of type Kept whose slices are owned, apart from each other -/
def OwnK2 (w0 w : World) (c : Value) (l : List Int) (n : Int) (m : List Int) : Prop :=
  ∃ v u, c = .agg #[v, .int .i64 n, u] ∧ Own 3 w0 w v l ∧ Own 3 w0 w u m ∧ (v.ownBlock = none ∨ v.ownBlock ≠ u.ownBlock)
theorem OwnK2.isK {w0 w : World} {c : Value} {l m : List Int} {n : Int} (h : OwnK2 w0 w c l n m) : IsK w c l n m := by
  obtain ⟨v, u, rfl, h1, h2, _⟩ := h; exact ⟨v, u, rfl, h1.ints, h2.ints⟩
theorem OwnK2.none (w0 w : World) : OwnK2 w0 w (.agg #[.slice none 0 0, .int .i64 0, .slice none 0 0]) [] 0 [] :=
  ⟨_, _, rfl, Own.nil _ _ _, Own.nil _ _ _, Or.inl rfl⟩
theorem OwnK2.mono {w0 w1 w : World} {c : Value} {l m : List Int} {n : Int} (h : OwnK2 w1 w c l n m) (hE : Ext w0 w1) : OwnK2 w0 w c l n m := by
  obtain ⟨v, u, rfl, h1, h2, h3⟩ := h; exact ⟨v, u, rfl, h1.mono hE, h2.mono hE, h3⟩
theorem OwnK2.ext {w0 w w' : World} {c : Value} {l m : List Int} {n : Int} (h : OwnK2 w0 w c l n m) (hE : Ext w w') : OwnK2 w0 w' c l n m := by
  obtain ⟨v, u, rfl, h1, h2, h3⟩ := h; exact ⟨v, u, rfl, h1.ext hE, h2.ext hE, h3⟩
def nkL (l : List Int) (a : Int) : List Int := if isSetB l a then l else []
def nkN (l : List Int) (a : Int) : Int := if isSetB l a then a else 0
theorem nk_no {l : List Int} {a : Int} (h : isSetB l a = false) : nkL l a = [] ∧ nkN l a = 0 ∧ tabF l a a = [] := by unfold nkL nkN; rw [h]; exact ⟨rfl, rfl, tabF_no (by rw [h]; rfl)⟩
theorem nk_yes {l : List Int} {a : Int} (h : isSetB l a = true) : nkL l a = l ∧ nkN l a = a := by unfold nkL nkN; rw [h]; exact ⟨rfl, rfl⟩

theorem copyInts_any (v : Value) (l : List Int) (w : World) (h : Ints w v l) :
    Calls Tryz.prog 86 #[v] w fun e w' => ∃ v', e = .returned v' ∧ Own 3 w w' v' l ∧ Ext w w' := by
  have hO := own_made (TI := 3) (n := 0) (by omega) (Ext.refl w) [] rfl
  have hE := (Ext.refl w).alloc (.cells #[] 3)
  have hI := h.ext hE
  obtain ⟨ao, c, rfl, hc, hlen, -⟩ := h
  go_enter Tryz.func86, Tryz.ntmps86
  go_wp2_with (at_builtin; refine wp_appends slI rfl _ _ rfl w _ _ _ _ _ hO hI hE (by simpa using hlen) rfl rfl ?_; intro v1 w1 hO1 hE1)
  go_ret
  exact ⟨_, rfl, by simpa using hO1, hE1⟩

end Go.Zz

/- Parts of sequences and their totals, the first part of a length, the shortest part, with the sum 0. -/
namespace Go.Zz
open Go.RowKit Go.Proofs
set_option maxHeartbeats 1000000
set_option maxRecDepth 20000

theorem part_int (u : Value) (xs : List Int) (m : Nat) (w : World) (hu : Ints w u xs) (hm : m < 2 ^ 24) (hl : xs.length ≤ 24) :
    Calls Tryz.prog 162 #[u, .int .i64 m] w fun e w' => ∃ p, e = .returned p ∧ Own 3 w w' p (partI xs m) ∧ Ext w w' := by
  have hO := own_made (TI := 3) (n := 0) (by omega) (Ext.refl w) [] rfl
  have hE := (Ext.refl w).alloc (.cells #[] 3)
  obtain ⟨ao, c, adr, rfl, hlen, hadr, hcell⟩ := hu.op
  have hix := ints_index (c := c) elI szI hadr
  clear hadr hu
  go_enter Tryz.func162, Tryz.ntmps162
  go_wp2_with fail
  go_loopw [5, 11] (fun p i wr => ∃ k : Nat, k ≤ xs.length ∧ i = .int .i64 k ∧ Own 3 w wr p (partTo xs m k) ∧ Ext w wr) (fun _ i _ => xs.length - (intOf i).toNat)
  case atStart => exact ⟨0, by omega, rfl, by have e : partTo xs m 0 = [] := rfl; rw [e]; exact hO, hE⟩
  case round =>
    clear hE hO
    obtain ⟨k, hk, rfl, hO, hE⟩ := hrel
    by_cases hlt : k < xs.length
    · have hck := hcell k _ hlt hE
      have hpl := partTo_len xs m k
      have hsh := ishr_nat (a := m) (n := k) (by omega)
      have hbt := bit_test' (a := m) (n := k) (by omega) (by omega)
      cases hb : m.testBit k
      · rw [hb] at hbt
        have Hn := Lib.hid (partTo_no (xs := xs) hb)
        go_wp2_with (first | (go_at_call 163; refine (in_val m k hm (by omega) _ hb).mono ?_; rintro e w' ⟨rfl, rfl⟩))
        go_roundw
        case rel => exact ⟨k + 1, by omega, by go_num, by rw [Hn.out]; exact hO, hE⟩
        case measure => (simp [intOf]; omega)
      · rw [hb] at hbt
        have Hn := Lib.hid (partTo_yes (xs := xs) hb)
        go_wp2_with (first | (go_at_call 163; refine (in_val m k hm (by omega) _ hb).mono ?_; rintro e w' ⟨rfl, rfl⟩) | (at_builtin; refine wp_append1 slI rfl _ _ rfl w _ _ _ _ hO hE (by omega) rfl rfl ?_; intro v1 w1 hO1 hE1))
        go_roundw
        case rel => exact ⟨k + 1, by omega, by go_num, by rw [Hn.out]; exact hO1, hE1⟩
        case measure => (simp [intOf]; omega)
    · have hkl : k = xs.length := by omega
      subst hkl
      go_wp2_with fail
      go_ret
      exact ⟨_, rfl, hO, hE⟩
theorem part_any (u : Value) (X : List Nat) (m : Nat) (w : World) (hu : Ints w u (castL X)) (hm : m < 2 ^ 24) (hl : X.length ≤ 24) :
    Calls Tryz.prog 162 #[u, .int .i64 m] w fun e w' => ∃ p, e = .returned p ∧ Own 3 w w' p (castL (partL X m)) ∧ Ext w w' := by
  have := part_int u _ m w hu hm (by rw [castL_len]; exact hl)
  rwa [partI_cast] at this
theorem l16Part_int (u : Value) (xs : List Int) (m : Nat) (w : World) (hu : Ints w u xs) (hm : m < 2 ^ 24) (hl : xs.length ≤ 24) :
    Calls Tryz.prog 144 #[u, .int .i64 m] w fun e w' => ∃ p, e = .returned p ∧ Own 3 w w' p (partI xs m) ∧ Ext w w' := by
  have hO := own_made (TI := 3) (n := 0) (by omega) (Ext.refl w) [] rfl
  have hE := (Ext.refl w).alloc (.cells #[] 3)
  obtain ⟨ao, c, adr, rfl, hlen, hadr, hcell⟩ := hu.op
  have hix := ints_index (c := c) elI szI hadr
  clear hadr hu
  go_enter Tryz.func144, Tryz.ntmps144
  go_wp2_with fail
  go_loopw [5, 6] (fun p i wr => ∃ k : Nat, k ≤ xs.length ∧ i = .int .i64 k ∧ Own 3 w wr p (partTo xs m k) ∧ Ext w wr) (fun _ i _ => xs.length - (intOf i).toNat)
  case atStart => exact ⟨0, by omega, rfl, by have e : partTo xs m 0 = [] := rfl; rw [e]; exact hO, hE⟩
  case round =>
    clear hE hO
    obtain ⟨k, hk, rfl, hO, hE⟩ := hrel
    by_cases hlt : k < xs.length
    · have hck := hcell k _ hlt hE
      have hpl := partTo_len xs m k
      have hsh := ishr_nat (a := m) (n := k) (by omega)
      have hbt := bit_test' (a := m) (n := k) (by omega) (by omega)
      cases hb : m.testBit k
      · rw [hb] at hbt
        have Hn := Lib.hid (partTo_no (xs := xs) hb)
        go_wp2_with (first | (fail))
        go_roundw
        case rel => exact ⟨k + 1, by omega, by go_num, by rw [Hn.out]; exact hO, hE⟩
        case measure => (simp [intOf]; omega)
      · rw [hb] at hbt
        have Hn := Lib.hid (partTo_yes (xs := xs) hb)
        go_wp2_with (first | (fail) | (at_builtin; refine wp_append1 slI rfl _ _ rfl w _ _ _ _ hO hE (by omega) rfl rfl ?_; intro v1 w1 hO1 hE1))
        go_roundw
        case rel => exact ⟨k + 1, by omega, by go_num, by rw [Hn.out]; exact hO1, hE1⟩
        case measure => (simp [intOf]; omega)
    · have hkl : k = xs.length := by omega
      subst hkl
      go_wp2_with fail
      go_ret
      exact ⟨_, rfl, hO, hE⟩
theorem l16Part_any (u : Value) (X : List Nat) (m : Nat) (w : World) (hu : Ints w u (castL X)) (hm : m < 2 ^ 24) (hl : X.length ≤ 24) :
    Calls Tryz.prog 144 #[u, .int .i64 m] w fun e w' => ∃ p, e = .returned p ∧ Own 3 w w' p (castL (partL X m)) ∧ Ext w w' := by
  have := l16Part_int u _ m w hu hm (by rw [castL_len]; exact hl)
  rwa [partI_cast] at this
theorem total_any (v u : Value) (l : List Int) (X : List Nat) (w : World) (h : Ints w v l) (hu : Ints w u (castL X)) (Hgr : Hid (isGrp l = true)) (hX : Hid (∀ x ∈ X, x < 24)) :
    Calls Tryz.prog 151 #[.agg #[v], u] w fun e w' => e = .returned (.int .i64 (tot l X : Nat)) ∧ Ext w w' := by
  obtain ⟨wb, hwb⟩ : ∃ wb, wb = w.alloc (.cells #[v] 27) := ⟨_, rfl⟩
  have hE0 := (Ext.refl w).alloc (.cells #[v] 27)
  have hb := box_cell w v 27
  rw [← hwb] at hE0 hb
  have hg : ∀ W, Ext wb W → Ints W v l := fun W hW => h.ext (hE0.trans hW)
  have hE := Ext.refl wb
  have Hwb := Lib.hid hwb
  clear hwb h
  have hu' := hu.ext hE0
  have hlen : X.length ≤ 17592186044416 := by obtain ⟨_, _, _, _, h', _⟩ := hu; simpa [castL_len] using h'
  obtain ⟨ao, c, adr, rfl, hadr, hcell⟩ := hu'.nats
  have hix := ints_index (c := c) elI szI hadr
  clear hadr hu hu'
  go_enter Tryz.func151, Tryz.ntmps151
  go_wp2_with fail
  rw [← Hwb.out]
  go_loopw [5, 10] (fun s i wr => ∃ k : Nat, k ≤ X.length ∧ i = .int .i64 k ∧ s = .int .i64 (tot l (X.take k) : Nat) ∧ Ext wb wr) (fun _ i _ => X.length - (intOf i).toNat)
  case atStart => exact ⟨0, by omega, rfl, rfl, hE⟩
  case round =>
    clear hE
    obtain ⟨k, hk, rfl, rfl, hE⟩ := hrel
    by_cases hlt : k < X.length
    · have hx := hX.out _ (nthN_mem hlt)
      have ht := tot_bd Hgr.out (X.take k)
      have Ht := Lib.hid (tot_snoc l (X.take k) (nthN X k))
      have Ht2 := Lib.hid (take_nthN X k hlt)
      have hck := hcell k _ hlt hE
      have hbx := hb _ hE
      go_wp2_with (first | (go_at_call 194; refine (add_any _ _ _ _ _ (hg _ hE) (Hgr) ((by omega)) ((by omega))).mono ?_; rintro e w' ⟨rfl, hE'⟩; replace hE := hE.trans hE'; clear hE'))
      go_wp2_with fail
      go_roundw
      case rel => exact ⟨k + 1, by omega, by go_num, by rw [Ht2.out, Ht.out], hE⟩
      case measure => (simp [intOf]; omega)
    · have hkl : k = X.length := by omega
      subst hkl
      go_wp2_with fail
      go_ret
      exact ⟨ret_int (by rw [List.take_length]), hE0.trans hE⟩
theorem l16Sum_any (v u : Value) (l : List Int) (X : List Nat) (w : World) (h : Ints w v l) (hu : Ints w u (castL X)) (Hgr : Hid (isGrp l = true)) (hX : Hid (∀ x ∈ X, x < 24)) :
    Calls Tryz.prog 53 #[.agg #[v], u] w fun e w' => e = .returned (.int .i64 (tot l X : Nat)) ∧ Ext w w' := by
  obtain ⟨wb, hwb⟩ : ∃ wb, wb = w.alloc (.cells #[v] 27) := ⟨_, rfl⟩
  have hE0 := (Ext.refl w).alloc (.cells #[v] 27)
  have hb := box_cell w v 27
  rw [← hwb] at hE0 hb
  have hg : ∀ W, Ext wb W → Ints W v l := fun W hW => h.ext (hE0.trans hW)
  have hE := Ext.refl wb
  have Hwb := Lib.hid hwb
  clear hwb h
  have hu' := hu.ext hE0
  have hlen : X.length ≤ 17592186044416 := by obtain ⟨_, _, _, _, h', _⟩ := hu; simpa [castL_len] using h'
  obtain ⟨ao, c, adr, rfl, hadr, hcell⟩ := hu'.nats
  have hix := ints_index (c := c) elI szI hadr
  clear hadr hu hu'
  go_enter Tryz.func53, Tryz.ntmps53
  go_wp2_with fail
  rw [← Hwb.out]
  go_loopw [5, 6] (fun s i wr => ∃ k : Nat, k ≤ X.length ∧ i = .int .i64 k ∧ s = .int .i64 (tot l (X.take k) : Nat) ∧ Ext wb wr) (fun _ i _ => X.length - (intOf i).toNat)
  case atStart => exact ⟨0, by omega, rfl, rfl, hE⟩
  case round =>
    clear hE
    obtain ⟨k, hk, rfl, rfl, hE⟩ := hrel
    by_cases hlt : k < X.length
    · have hx := hX.out _ (nthN_mem hlt)
      have ht := tot_bd Hgr.out (X.take k)
      have Ht := Lib.hid (tot_snoc l (X.take k) (nthN X k))
      have Ht2 := Lib.hid (take_nthN X k hlt)
      have hck := fun U => hcell k _ hlt (hE.trans (lat_ext wr U))
      have hbx := fun U => hb _ (hE.trans (lat_ext wr U)); have hgr' : ∀ W, Ext wr W → Ints W v l := fun W hW => hg W (hE.trans hW); have hE1 := hE; clear hE; have hE := Ext.refl wr; go_wp2_with fail
      (refine wp_region_lat (wr) (by kernel_rfl) (by kernel_rfl) hE ?_); (repeat (go_big_quiet_step (first | (go_at_call 141; exact Calls.lat (l2Add_any _ _ _ _ _ (hgr' _ (lat_ext wr _)) Hgr (by omega) (by omega)))))); (refine wpQuiet_nil ?_); (intro W hE'); (replace hE := lat_of hE'); (clear hE'); replace hE := hE1.trans hE
      go_wp2_with fail
      go_roundw
      case rel => exact ⟨k + 1, by omega, by go_num, by rw [Ht2.out, Ht.out], hE⟩
      case measure => (simp [intOf]; omega)
    · have hkl : k = X.length := by omega
      subst hkl
      go_wp2_with fail
      go_ret
      exact ⟨ret_int (by rw [List.take_length]), hE0.trans hE⟩
theorem pw_len {n : Nat} (h : n ≤ 12) : pw n ≤ 4096 := Nat.pow_le_pow_right (n := 2) (by omega) h
theorem ZeroOfLength_seq (v u : Value) (l : List Int) (X : List Nat) (k : Nat) (w : World) (h : Ints w v l) (hu : Ints w u (castL X)) (hs : seqB l (castL X) = true) (hk1 : 1 ≤ k) (hk2 : k ≤ X.length) :
    Calls Tryz.prog 155 #[.agg #[v], u, .int .i64 k] w fun e w' => ∃ p, e = .returned (.tuple #[p, .bool (zolB l X k)]) ∧ Own 3 w w' p (castL (zolL l X k)) ∧ Ext w w' := by
  obtain ⟨wb, hwb⟩ : ∃ wb, wb = w.alloc (.cells #[v] 27) := ⟨_, rfl⟩
  have hE0 := (Ext.refl w).alloc (.cells #[v] 27)
  have hb := box_cell w v 27
  rw [← hwb] at hE0 hb
  have hg : ∀ W, Ext wb W → Ints W v l := fun W hW => h.ext (hE0.trans hW)
  have hE := Ext.refl wb
  have Hsz : Hid (w.heap.size + 1 = wb.heap.size) := Lib.hid (by rw [hwb]; simp [go_sem])
  have Hwb := Lib.hid hwb
  clear hwb h
  obtain ⟨X', e1, -, h12, hgr, hall⟩ := seqB_nat hs
  obtain rfl : X = X' := by
    have : ∀ (A B : List Nat), castL A = castL B → A = B := fun A B e => by
      have := congrArg (List.map Int.toNat) e
      simpa [castL, Function.comp_def] using this
    exact this _ _ e1
  have Hall := Lib.hid hall
  have Hgr := Lib.hid hgr
  have hp := pw_len h12
  have hs1 := ishl_one (n := X.length) (by omega)
  have Hgu : Hid (∀ W, Ext wb W → Ints W u (castL X)) := Lib.hid fun W hW => hu.ext (hE0.trans hW)
  obtain ⟨ao, c, adr, rfl, hadr, hcell⟩ := hu.nats
  have hin : inB (k : Int) 1 (X.length : Int) = true := inB_t.2 (by omega)
  have hbx := hb wb hE
  have Hat := Lib.hid (fun (m : Nat) a b c d => zol_at (l := l) (X := X) (k := k) (m := m) a b c d)
  have Hnone := Lib.hid (fun a => zol_none (l := l) (X := X) (k := k) a)
  clear hall hgr e1 hadr hcell hu
  go_enter Tryz.func155, Tryz.ntmps155
  go_wp2_with fail
  rw [← Hwb.out]
  go_wp2_with (first | (go_at_call 63; refine (IsSequence_val _ _ _ _ _ (hg _ hE) (Hgu.out _ hE) hs).mono ?_; rintro e w' ⟨rfl, hE'⟩; replace hE := hE.trans hE'; clear hE') | (go_at_call 138; refine (within_any _ _ _ _).mono ?_; rw [hin]; rintro e w' ⟨rfl, rfl⟩))
  clear hbx hs hin
  go_loopw [24] (fun i wr => ∃ m : Nat, m ≤ pw X.length ∧ i = .int .i64 m ∧ (∀ j, j < m → ¬ (cnt j = k ∧ tot l (partL X j) = 0)) ∧ Ext wb wr) (fun i _ => pw X.length - (intOf i).toNat)
  case atStart => exact ⟨0, by omega, rfl, by omega, hE⟩
  case round =>
    clear hE
    obtain ⟨m, hm, rfl, hno, hE⟩ := hrel
    have Hno := Lib.hid hno
    clear hno
    by_cases hlt : m < pw X.length
    · have hm24 : m < 2 ^ 24 := by omega
      have hcm := cnt_le m
      have hbw : ∀ W, Ext wr W → W.cell? ⟨w.heap.size, 0, none⟩ = some v := fun W hW => hb W (hE.trans hW)
      have hgw : ∀ W, Ext wr W → Ints W v l := fun W hW => hg W (hE.trans hW)
      have Hgw : Hid (∀ W, Ext wr W → Ints W (.slice ao X.length c) (castL X)) := Lib.hid fun W hW => Hgu.out W (hE.trans hW)
      have hE1 := hE
      clear hE
      have hE := Ext.refl wr
      by_cases hc : cnt m = k
      · have hq1 : ((cnt m : Int) == (k : Int)) = true := by rw [hc]; simp
        by_cases ht : tot l (partL X m) = 0
        · have Hz := Lib.hid (Hat.out m hlt Hno.out hc ht)
          have hq2 : ((tot l (partL X m) : Int) == 0) = true := by rw [ht]; simp
          have hbx := hbw wr hE
          clear hc ht
          go_wp2_with fail
          have hD := (Ext.refl (wr)).drew
          first | (go_region_held3 (fun W => Ext (wr) W ∧ W.cell? ⟨w.heap.size, 0, none⟩ = some v) (exact ⟨(by repeat (first | assumption | exact Ext.refl _ | (apply And.left; assumption) | apply Ext.drew | apply Ext.alloc)), hbw _ (by repeat (first | assumption | exact Ext.refl _ | (apply And.left; assumption) | apply Ext.drew | apply Ext.alloc))⟩) (first | (go_at_call 98; ((with_reducible refine Calls.mono (Calls.ext_of_same (bits_any _ hm24 _)) ?_); rintro e wH0 ⟨rfl, hX0⟩; have hH0 := Ext.trans (a := wr) (by repeat (first | assumption | exact Ext.refl _ | (apply And.left; assumption) | apply Ext.drew | apply Ext.alloc)) hX0)) | (go_at_call 162; ((with_reducible refine Calls.mono (part_any _ _ _ _ (Hgw.out _ (by repeat (first | assumption | exact Ext.refl _ | (apply And.left; assumption) | apply Ext.drew | apply Ext.alloc))) hm24 (by omega)) ?_); rintro e wH1 ⟨vP, rfl, hOP, hX1⟩; have hH1 := Ext.trans (a := wr) (by repeat (first | assumption | exact Ext.refl _ | (apply And.left; assumption) | apply Ext.drew | apply Ext.alloc)) hX1)) | (go_at_call 151; ((with_reducible refine Calls.mono (total_any _ _ _ _ _ (hgw _ (by repeat (first | assumption | exact Ext.refl _ | (apply And.left; assumption) | apply Ext.drew | apply Ext.alloc))) hOP.ints Hgr (Lib.hid fun x hx => Hall.out x (partL_mem hx))) ?_); rintro e wH2 ⟨rfl, hX2⟩; have hH2 := Ext.trans (a := wr) (by repeat (first | assumption | exact Ext.refl _ | (apply And.left; assumption) | apply Ext.drew | apply Ext.alloc)) hX2)))) | (fail "the region with calls")
          have hE3 : Ext wr wH2 := by repeat (first | assumption | exact Ext.refl _ | (apply And.left; assumption) | apply Ext.drew | apply Ext.alloc)
          go_wp2_with fail
          refine (part_any _ _ _ _ (Hgw.out _ hE3) hm24 (by omega)).mono ?_
          rintro e w5 ⟨p5, rfl, hO5, hE5⟩
          go_wp2_with fail
          exact bodyPost_ret (v := .tuple #[p5, .bool true]) (by simp [results, Tryz.results155, go_sem]) rfl ⟨_, by rw [Hz.out.2.1], by rw [Hz.out.1]; exact hO5.mono (hE0.trans (hE1.trans hE3)), hE0.trans (hE1.trans (hE3.trans hE5))⟩
        · have Hq := Lib.hid (fun e : cnt m = k ∧ tot l (partL X m) = 0 => ht e.2)
          have hq2 : ((tot l (partL X m) : Int) == 0) = false := by simp; omega
          have hbx := hbw wr hE
          clear hc ht
          go_wp2_with fail
          have hD := (Ext.refl (wr)).drew
          first | (go_region_held3 (fun W => Ext (wr) W ∧ W.cell? ⟨w.heap.size, 0, none⟩ = some v) (exact ⟨(by repeat (first | assumption | exact Ext.refl _ | (apply And.left; assumption) | apply Ext.drew | apply Ext.alloc)), hbw _ (by repeat (first | assumption | exact Ext.refl _ | (apply And.left; assumption) | apply Ext.drew | apply Ext.alloc))⟩) (first | (go_at_call 98; ((with_reducible refine Calls.mono (Calls.ext_of_same (bits_any _ hm24 _)) ?_); rintro e wH0 ⟨rfl, hX0⟩; have hH0 := Ext.trans (a := wr) (by repeat (first | assumption | exact Ext.refl _ | (apply And.left; assumption) | apply Ext.drew | apply Ext.alloc)) hX0)) | (go_at_call 162; ((with_reducible refine Calls.mono (part_any _ _ _ _ (Hgw.out _ (by repeat (first | assumption | exact Ext.refl _ | (apply And.left; assumption) | apply Ext.drew | apply Ext.alloc))) hm24 (by omega)) ?_); rintro e wH1 ⟨vP, rfl, hOP, hX1⟩; have hH1 := Ext.trans (a := wr) (by repeat (first | assumption | exact Ext.refl _ | (apply And.left; assumption) | apply Ext.drew | apply Ext.alloc)) hX1)) | (go_at_call 151; ((with_reducible refine Calls.mono (total_any _ _ _ _ _ (hgw _ (by repeat (first | assumption | exact Ext.refl _ | (apply And.left; assumption) | apply Ext.drew | apply Ext.alloc))) hOP.ints Hgr (Lib.hid fun x hx => Hall.out x (partL_mem hx))) ?_); rintro e wH2 ⟨rfl, hX2⟩; have hH2 := Ext.trans (a := wr) (by repeat (first | assumption | exact Ext.refl _ | (apply And.left; assumption) | apply Ext.drew | apply Ext.alloc)) hX2)))) | (fail "the region with calls")
          have hE3 : Ext wr wH2 := by repeat (first | assumption | exact Ext.refl _ | (apply And.left; assumption) | apply Ext.drew | apply Ext.alloc)
          go_wp2_with fail
          go_roundw
          case rel => exact ⟨m + 1, by omega, by go_num, fun j hj => by by_cases e : j = m; (subst e; exact Hq.out); exact Hno.out j (by omega), hE1.trans hE3⟩
          case measure => (simp [intOf]; omega)
      · have Hq := Lib.hid (fun e : cnt m = k ∧ tot l (partL X m) = 0 => hc e.1)
        have hq1 : ((cnt m : Int) == (k : Int)) = false := by simp; omega
        have hbu := fun U => hbw _ (lat_ext wr U)
        clear hc
        go_wp2_with fail
        (refine wp_region_lat (wr) (by kernel_rfl) (by kernel_rfl) hE ?_); (repeat (go_big_quiet_step (first | (go_at_call 98; exact Calls.lat_same (bits_any _ (hm24) _))))); (refine wpQuiet_nil ?_); (intro W hE'); (replace hE := lat_of hE'); (clear hE')
        go_wp2_with fail
        go_roundw
        case rel => exact ⟨m + 1, by omega, by go_num, fun j hj => by by_cases e : j = m; (subst e; exact Hq.out); exact Hno.out j (by omega), hE1.trans hE⟩
        case measure => (simp [intOf]; omega)
    · have hml : m = pw X.length := by omega
      subst hml
      have Hz := Lib.hid (Hnone.out Hno.out)
      have hO : Own 3 wr (wr.alloc (.cells #[] 3)) (.slice (some ⟨wr.heap.size, 0, none⟩) 0 0) (castL []) := own_made (TI := 3) (n := 0) (by omega) (Ext.refl wr) [] rfl
      go_wp2_with fail
      exact bodyPost_ret (v := .tuple #[.slice (some ⟨wr.heap.size, 0, none⟩) 0 0, .bool false]) (by simp [results, Tryz.results155, go_sem]) rfl ⟨_, by rw [Hz.out.2.1], by rw [Hz.out.1]; exact hO.mono (hE0.trans hE), hE0.trans (hE.alloc _)⟩
end Go.Zz

/- Marks in kept counts. -/
namespace Go.Zz
open Go.RowKit Go.Proofs
set_option maxHeartbeats 400000

theorem Blk.grown {w w' : World} {b : Nat} {T : TypeId} {cs : Array Value} {row : Option Nat} (h : Blk w b T cs) (hg : w.grownBy w' row) (hne : ∀ k, row = some k → k ≠ b) : Blk w' b T cs := by
  unfold Blk
  rw [hg.block b h.lt (by
    cases row with
    | none => simp
    | some k => simp; exact fun e => hne k rfl (by first | exact e | exact e.symm))]
  exact h
/-- the slices of a value of type Kept lie below a block -/
def Below2 (c : Value) (top : Nat) : Prop := ∀ v n u, c = .agg #[v, n, u] → ∀ k, (v.ownBlock = some k ∨ u.ownBlock = some k) → k < top
theorem OwnK2.below {w0 w : World} {c : Value} {l m : List Int} {n : Int} (h : OwnK2 w0 w c l n m) : Below2 c w.heap.size := by
  obtain ⟨v, u, rfl, hv, hu, -⟩ := h
  intro v' n' u' e k hk
  simp at e
  obtain ⟨rfl, rfl, rfl⟩ := e
  rcases hk with hk | hk
  · exact (hv.blk k hk).2
  · exact (hu.blk k hk).2
theorem OwnK2.kept {w0 w w' : World} {c : Value} {l m : List Int} {n : Int} {row : Option Nat} (h : OwnK2 w0 w c l n m) (hg : w.grownBy w' row) (hr : ∀ k, row = some k → k < w0.heap.size) : OwnK2 w0 w' c l n m := by
  obtain ⟨v, u, rfl, hv, hu, hd⟩ := h
  have key : ∀ {x : Value} {ll : List Int}, Own 3 w0 w x ll → Own 3 w0 w' x ll := fun {x ll} hx => hx.kept hg (by
    cases hq : x.ownBlock with
    | none => exact Or.inl rfl
    | some k => exact Or.inr fun e => by have := hr k e.symm; have := (hx.blk k hq).1; omega)
  exact ⟨v, u, rfl, key hv, key hu, hd⟩
end Go.Zz

/- Claims: equal ones, marks in what they hold. -/
namespace Go.Zz
open Go.RowKit Go.Proofs
set_option maxHeartbeats 2000000

/-- two values own no block together -/
def Apart (x y : Value) : Prop := ∀ k, x.ownBlock = some k → y.ownBlock ≠ some k
theorem Apart.symm {x y : Value} (h : Apart x y) : Apart y x := fun k hk e => h k e hk
theorem Apart.or {x y : Value} (h : Apart x y) : x.ownBlock = none ∨ x.ownBlock ≠ y.ownBlock := by
  cases hx : x.ownBlock with
  | none => exact Or.inl rfl
  | some k => exact Or.inr fun e => h k hx e.symm
theorem Apart.nil_left (y : Value) : Apart (.slice none 0 0) y := fun k hk => by cases hk
theorem Apart.nil_right (x : Value) : Apart x (.slice none 0 0) := fun k _ h => by cases h
theorem apart_of {TI : TypeId} {a b c d : World} {u v : Value} {l m : List Int} (h : Own TI a b u l) (k : Own TI c d v m) (hs : b.heap.size ≤ c.heap.size) : Apart u v := fun i hi e => by
  have h1 := (h.blk i hi).2
  have h2 := (k.blk i e).1
  omega
/-- four slices that are owned, apart from each other -/
structure Own4 (w0 w : World) (v1 v2 v3 v4 : Value) (g o t q : List Int) : Prop where
  h1 : Own 3 w0 w v1 g
  h2 : Own 3 w0 w v2 o
  h3 : Own 3 w0 w v3 t
  h4 : Own 3 w0 w v4 q
  d12 : Apart v1 v2
  d13 : Apart v1 v3
  d14 : Apart v1 v4
  d23 : Apart v2 v3
  d24 : Apart v2 v4
  d34 : Apart v3 v4
theorem Own4.ext {w0 w w' : World} {v1 v2 v3 v4 : Value} {g o t q : List Int} (h : Own4 w0 w v1 v2 v3 v4 g o t q) (hE : Ext w w') : Own4 w0 w' v1 v2 v3 v4 g o t q :=
  ⟨h.h1.ext hE, h.h2.ext hE, h.h3.ext hE, h.h4.ext hE, h.d12, h.d13, h.d14, h.d23, h.d24, h.d34⟩
theorem Own4.mono {w0 w1 w : World} {v1 v2 v3 v4 : Value} {g o t q : List Int} (h : Own4 w1 w v1 v2 v3 v4 g o t q) (hE : Ext w0 w1) : Own4 w0 w v1 v2 v3 v4 g o t q :=
  ⟨h.h1.mono hE, h.h2.mono hE, h.h3.mono hE, h.h4.mono hE, h.d12, h.d13, h.d14, h.d23, h.d24, h.d34⟩
/-- the slices of a claim read as lists -/
structure Ints4 (w : World) (v1 v2 v3 v4 : Value) (g o t q : List Int) : Prop where
  g : Ints w v1 g
  o : Ints w v2 o
  t : Ints w v3 t
  q : Ints w v4 q
theorem Ints4.ext {w w' : World} {v1 v2 v3 v4 : Value} {g o t q : List Int} (h : Ints4 w v1 v2 v3 v4 g o t q) (hE : Ext w w') : Ints4 w' v1 v2 v3 v4 g o t q :=
  ⟨h.g.ext hE, h.o.ext hE, h.t.ext hE, h.q.ext hE⟩
theorem Own4.ints {w0 w : World} {v1 v2 v3 v4 : Value} {g o t q : List Int} (h : Own4 w0 w v1 v2 v3 v4 g o t q) : Ints4 w v1 v2 v3 v4 g o t q := ⟨h.h1.ints, h.h2.ints, h.h3.ints, h.h4.ints⟩
/-- the slices lie below a block -/
def Below4 (v1 v2 v3 v4 : Value) (top : Nat) : Prop := ∀ k, (v1.ownBlock = some k ∨ v2.ownBlock = some k ∨ v3.ownBlock = some k ∨ v4.ownBlock = some k) → k < top
theorem Own4.below {w0 w : World} {v1 v2 v3 v4 : Value} {g o t q : List Int} (h : Own4 w0 w v1 v2 v3 v4 g o t q) : Below4 v1 v2 v3 v4 w.heap.size := by
  rintro k (hk | hk | hk | hk)
  · exact (h.h1.blk k hk).2
  · exact (h.h2.blk k hk).2
  · exact (h.h3.blk k hk).2
  · exact (h.h4.blk k hk).2
theorem Own.kept_low {TI : TypeId} {w0 w w' : World} {v : Value} {l : List Int} {row : Option Nat} (h : Own TI w0 w v l) (hg : w.grownBy w' row) (hr : ∀ k, row = some k → k < w0.heap.size) : Own TI w0 w' v l :=
  h.kept hg (by
    cases hq : v.ownBlock with
    | none => exact Or.inl rfl
    | some k => exact Or.inr fun e => by have := hr k e.symm; have := (h.blk k hq).1; omega)
theorem Own.kept_high {TI : TypeId} {w0 w w' : World} {v : Value} {l : List Int} {row : Option Nat} (h : Own TI w0 w v l) (hg : w.grownBy w' row) (hr : ∀ k, row = some k → v.ownBlock ≠ some k) : Own TI w0 w' v l :=
  h.kept hg (by
    cases hq : v.ownBlock with
    | none => exact Or.inl rfl
    | some k => exact Or.inr fun e => hr k e.symm hq)
theorem Own4.kept {w0 w w' : World} {v1 v2 v3 v4 : Value} {g o t q : List Int} {row : Option Nat} (h : Own4 w0 w v1 v2 v3 v4 g o t q) (hg : w.grownBy w' row) (hr : ∀ k, row = some k → k < w0.heap.size) : Own4 w0 w' v1 v2 v3 v4 g o t q :=
  ⟨h.h1.kept_low hg hr, h.h2.kept_low hg hr, h.h3.kept_low hg hr, h.h4.kept_low hg hr, h.d12, h.d13, h.d14, h.d23, h.d24, h.d34⟩
/-- a value of type Claim -/
def CV (k : Int) (v1 v2 : Value) (a b s p : Int) (v3 v4 : Value) (n : Int) : Value := .agg #[.int .i64 k, v1, v2, .int .i64 a, .int .i64 b, .int .i64 s, .int .i64 p, v3, v4, .int .i64 n]

end Go.Zz

/- Cosets of small doubling. -/
namespace Go.Zz
open Go.RowKit Go.Proofs
set_option maxHeartbeats 400000

def scD (l : List Int) (a : Int) : Int := if smallF l a then (sumF l a.toNat (oppF l a.toNat) : Int) else 0
def scS (l : List Int) (a : Int) : Int := if smallF l a then (sumF l a.toNat (sumF l a.toNat (oppF l a.toNat)) : Int) else 0
theorem sc_no {l : List Int} {a : Int} (h : smallF l a = false) : scD l a = 0 ∧ scS l a = 0 := by unfold scD scS; rw [h]; exact ⟨rfl, rfl⟩
theorem sc_yes {l : List Int} {n : Nat} (h : smallF l n = true) : scD l n = (sumF l n (oppF l n) : Int) ∧ scS l n = (sumF l n (sumF l n (oppF l n)) : Int) := by unfold scD scS; rw [h]; exact ⟨rfl, rfl⟩
theorem smallF_nat {l : List Int} {a : Int} (h : smallF l a = true) : ∃ n : Nat, a = n ∧ n < 2 ^ ord l ∧ n < 2 ^ 24 ∧ isGrp l = true ∧ isSetB l a = true := by
  unfold smallF at h
  have h1 := (Bool.and_eq_true_iff.1 (Bool.and_eq_true_iff.1 h).1).1
  obtain ⟨n, rfl, a, b, c⟩ := isSetB_nat h1
  exact ⟨n, rfl, a, b, c, h1⟩
--%call IsSmallV 95 ext IsSmallDoubling_val _ _ _ _ ({0}) ({1})
theorem IsSmallDoubling_val (v : Value) (l : List Int) (a : Int) (w : World) (h : Ints w v l) {b : Bool} (hb : smallF l a = b) :
    Calls Tryz.prog 95 #[.agg #[v], .int .i64 a] w fun e w' => e = .returned (.bool b) ∧ Ext w w' := by
  subst hb; exact IsSmallDoubling_any v l a w h
--%call sIsSmallV 122 ext sIsSmallDoubling_val _ _ _ _ ({0}) ({1})
theorem sIsSmallDoubling_val (v : Value) (l : List Int) (a : Int) (w : World) (h : Ints w v l) {b : Bool} (hb : smallF l a = b) :
    Calls Tryz.prog 122 #[.agg #[v], .int .i64 a] w fun e w' => e = .returned (.bool b) ∧ Ext w w' := by
  subst hb; exact sIsSmallDoubling_any v l a w h
--%call sDiff 123 ext sDifferenceOfSets_nat _ _ _ _ _ ({0}) ({1}) ({2})
theorem sDifferenceOfSets_nat (v : Value) (l : List Int) (a b : Nat) (w : World) (h : Ints w v l) (ha : isSetB l a = true) (hb' : isSetB l b = true) :
    Calls Tryz.prog 123 #[.agg #[v], .int .i64 a, .int .i64 b] w fun e w' => e = .returned (.int .i64 (sumF l a (oppF l b))) ∧ Ext w w' := by
  obtain ⟨wb, hwb⟩ : ∃ wb, wb = w.alloc (.cells #[v] 27) := ⟨_, rfl⟩
  have hE0 := (Ext.refl w).alloc (.cells #[v] 27)
  have hb := box_cell w v 27
  rw [← hwb] at hE0 hb
  have hg : ∀ W, Ext wb W → Ints W v l := fun W hW => h.ext (hE0.trans hW)
  have hE := Ext.refl wb
  have Hsz : Hid (w.heap.size + 1 = wb.heap.size) := Lib.hid (by rw [hwb]; simp [go_sem])
  have Hwb := Lib.hid hwb
  clear hwb h
  obtain ⟨a', e1, -, ha2, hgr⟩ := isSetB_nat ha
  obtain ⟨b', e2, -, hb2, -⟩ := isSetB_nat hb'
  obtain rfl : a = a' := by omega
  obtain rfl : b = b' := by omega
  have hbx := fun U => hb _ (lat_ext wb U)
  have hbx1 := hb wb hE
  have Hgr := Lib.hid hgr
  have ho := oppF_bd hgr b
  clear hgr e1 e2
  go_enter Tryz.func123, Tryz.ntmps123
  go_wp2_with fail
  rw [← Hwb.out]
  go_wp2_with (first | (go_at_call 126; (first | (with_reducible refine Calls.mono (sIsSet_val _ _ (a : Int) _ (hg _ hE) ha) ?_) | (with_reducible refine Calls.mono (sIsSet_val _ _ (b : Int) _ (hg _ hE) hb') ?_)); rintro e w' ⟨rfl, hE'⟩; replace hE := hE.trans hE'; clear hE'))
  (refine wp_region_lat (wb) (by kernel_rfl) (by kernel_rfl) hE ?_); (repeat (go_big_quiet_step (first | (go_at_call 189; exact Calls.lat (l3Negate_any _ _ _ _ (hg _ (lat_ext wb _)) (Hgr) (hb2))) | (go_at_call 84; exact Calls.lat (l4Sum_any _ _ _ _ _ (hg _ (lat_ext wb _)) (Hgr) (ha2) (ho)))))); (refine wpQuiet_nil ?_); (intro W hE'); (replace hE := lat_of hE'); (clear hE')
  go_wp2_with fail
  go_ret
  exact ⟨rfl, hE0.trans hE⟩
theorem SmallCoset_any (v : Value) (l : List Int) (a : Int) (w : World) (h : Ints w v l) :
    Calls Tryz.prog 114 #[.agg #[v], .int .i64 a] w fun e w' => e = .returned (.tuple #[.int .i64 (scD l a), .int .i64 (scS l a), .bool (smallF l a)]) ∧ Ext w w' := by
  obtain ⟨wb, hwb⟩ : ∃ wb, wb = w.alloc (.cells #[v] 27) := ⟨_, rfl⟩
  have hE0 := (Ext.refl w).alloc (.cells #[v] 27)
  have hb := box_cell w v 27
  rw [← hwb] at hE0 hb
  have hg : ∀ W, Ext wb W → Ints W v l := fun W hW => h.ext (hE0.trans hW)
  have hE := Ext.refl wb
  have Hsz : Hid (w.heap.size + 1 = wb.heap.size) := Lib.hid (by rw [hwb]; simp [go_sem])
  have Hwb := Lib.hid hwb
  clear hwb h
  have hbx := hb wb hE
  cases hs : smallF l a
  · have Hs := Lib.hid (sc_no hs)
    go_enter Tryz.func114, Tryz.ntmps114
    go_wp2_with fail
    rw [← Hwb.out]
    go_wp2_with (first | (go_at_call 95; refine (IsSmallDoubling_val _ _ _ _ (hg _ hE) (hs)).mono ?_; rintro e w' ⟨rfl, hE'⟩; replace hE := hE.trans hE'; clear hE'))
    refine bodyPost_ret (v := .tuple #[.int .i64 0, .int .i64 0, .bool false]) (by simp [results, Tryz.results114, go_sem]) rfl ⟨by rw [Hs.out.1, Hs.out.2], hE0.trans hE⟩
  · have Hs : Hid (∀ n : Nat, a = n → scD l a = (sumF l n (oppF l n) : Int) ∧ scS l a = (sumF l n (sumF l n (oppF l n)) : Int)) := Lib.hid (fun n e => by subst e; exact sc_yes hs)
    obtain ⟨n, hn, h1, h2, hgr, -⟩ := smallF_nat hs
    subst hn
    have Hgr := Lib.hid hgr
    have hd := sumF_bd hgr n (oppF l n)
    clear hgr
    go_enter Tryz.func114, Tryz.ntmps114
    go_wp2_with fail
    rw [← Hwb.out]
    go_wp2_with (first | (go_at_call 95; refine (IsSmallDoubling_val _ _ _ _ (hg _ hE) (hs)).mono ?_; rintro e w' ⟨rfl, hE'⟩; replace hE := hE.trans hE'; clear hE') | (go_at_call 96; refine (difference_any _ _ _ _ _ (hg _ hE) (Hgr) (h2) (h2)).mono ?_; rintro e w' ⟨rfl, hE'⟩; replace hE := hE.trans hE'; clear hE'))
    replace hbx := fun U => hb _ (lat_ext wb U)
    try (refine wp_region_lat (wb) (by kernel_rfl) (by kernel_rfl) hE ?_); (repeat (go_big_quiet_step (first | (go_at_call 79; exact Calls.lat (sum_any _ _ _ _ _ (hg _ (lat_ext wb _)) (Hgr) (h2) (hd)))))); (refine wpQuiet_nil ?_); (intro W hE'); (replace hE := lat_of hE'); (clear hE')
    go_wp2_with (first | (go_at_call 79; refine (sum_any _ _ _ _ _ (hg _ hE) (Hgr) (h2) (hd)).mono ?_; rintro e w' ⟨rfl, hE'⟩; replace hE := hE.trans hE'; clear hE'))
    refine bodyPost_ret (v := .tuple #[.int .i64 (sumF l n (oppF l n) : Int), .int .i64 (sumF l n (sumF l n (oppF l n)) : Int), .bool true]) (by simp [results, Tryz.results114, go_sem]) rfl ⟨by rw [(Hs.out n rfl).1, (Hs.out n rfl).2], hE0.trans hE⟩
theorem sSmallCoset_any (v : Value) (l : List Int) (a : Int) (w : World) (h : Ints w v l) :
    Calls Tryz.prog 115 #[.agg #[v], .int .i64 a] w fun e w' => e = .returned (.tuple #[.int .i64 (scD l a), .int .i64 (scS l a), .bool (smallF l a)]) ∧ Ext w w' := by
  obtain ⟨wb, hwb⟩ : ∃ wb, wb = w.alloc (.cells #[v] 27) := ⟨_, rfl⟩
  have hE0 := (Ext.refl w).alloc (.cells #[v] 27)
  have hb := box_cell w v 27
  rw [← hwb] at hE0 hb
  have hg : ∀ W, Ext wb W → Ints W v l := fun W hW => h.ext (hE0.trans hW)
  have hE := Ext.refl wb
  have Hsz : Hid (w.heap.size + 1 = wb.heap.size) := Lib.hid (by rw [hwb]; simp [go_sem])
  have Hwb := Lib.hid hwb
  clear hwb h
  have hbx := hb wb hE
  cases hs : smallF l a
  · have Hs := Lib.hid (sc_no hs)
    go_enter Tryz.func115, Tryz.ntmps115
    go_wp2_with fail
    rw [← Hwb.out]
    go_wp2_with (first | (go_at_call 122; refine (sIsSmallDoubling_val _ _ _ _ (hg _ hE) (hs)).mono ?_; rintro e w' ⟨rfl, hE'⟩; replace hE := hE.trans hE'; clear hE'))
    refine bodyPost_ret (v := .tuple #[.int .i64 0, .int .i64 0, .bool false]) (by simp [results, Tryz.results115, go_sem]) rfl ⟨by rw [Hs.out.1, Hs.out.2], hE0.trans hE⟩
  · have Hs : Hid (∀ n : Nat, a = n → scD l a = (sumF l n (oppF l n) : Int) ∧ scS l a = (sumF l n (sumF l n (oppF l n)) : Int)) := Lib.hid (fun n e => by subst e; exact sc_yes hs)
    obtain ⟨n, hn, h1, h2, hgr, hss⟩ := smallF_nat hs
    subst hn
    have Hgr := Lib.hid hgr
    have hd := sumF_bd hgr n (oppF l n)
    clear hgr
    go_enter Tryz.func115, Tryz.ntmps115
    go_wp2_with fail
    rw [← Hwb.out]
    go_wp2_with (first | (go_at_call 122; refine (sIsSmallDoubling_val _ _ _ _ (hg _ hE) (hs)).mono ?_; rintro e w' ⟨rfl, hE'⟩; replace hE := hE.trans hE'; clear hE') | (go_at_call 123; refine (sDifferenceOfSets_nat _ _ _ _ _ (hg _ hE) (hss) (hss)).mono ?_; rintro e w' ⟨rfl, hE'⟩; replace hE := hE.trans hE'; clear hE'))
    replace hbx := fun U => hb _ (lat_ext wb U)
    try (refine wp_region_lat (wb) (by kernel_rfl) (by kernel_rfl) hE ?_); (repeat (go_big_quiet_step (first | (go_at_call 84; exact Calls.lat (l4Sum_any _ _ _ _ _ (hg _ (lat_ext wb _)) (Hgr) (h2) (hd)))))); (refine wpQuiet_nil ?_); (intro W hE'); (replace hE := lat_of hE'); (clear hE')
    go_wp2_with (first | (go_at_call 84; refine (l4Sum_any _ _ _ _ _ (hg _ hE) (Hgr) (h2) (hd)).mono ?_; rintro e w' ⟨rfl, hE'⟩; replace hE := hE.trans hE'; clear hE'))
    refine bodyPost_ret (v := .tuple #[.int .i64 (sumF l n (oppF l n) : Int), .int .i64 (sumF l n (sumF l n (oppF l n)) : Int), .bool true]) (by simp [results, Tryz.results115, go_sem]) rfl ⟨by rw [(Hs.out n rfl).1, (Hs.out n rfl).2], hE0.trans hE⟩
end Go.Zz
