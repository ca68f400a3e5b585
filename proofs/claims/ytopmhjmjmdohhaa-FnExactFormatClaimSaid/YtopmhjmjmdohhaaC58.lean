/- Numbers that are glued: plain; narrow; numbers of the reference. -/
import Derived.Test.YtopmhjmjmdohhaaC57
namespace Go.Zz
open Go.RowKit Go.Proofs
set_option maxHeartbeats 400000
set_option maxRecDepth 4000

theorem rd_len (k : Nat) : ∀ m, m < 10 ^ k → (rd m).length ≤ k := by
  induction k with
  | zero => intro m h; have : m = 0 := by omega
            subst this; rw [rd_zero]; simp
  | succ k ih =>
    intro m h
    by_cases hm : m = 0
    · subst hm; rw [rd_zero]; simp
    · rw [rd_pos hm]
      have := ih (m / 10) (by rw [Nat.pow_succ] at h; omega)
      simp; omega
theorem digs_size {m : Nat} (h : m < 1000000000000) : (digs m ⟨#[]⟩).size ≤ 12 := by
  rw [digs_rd, ByteArray.size_append, strOfNums_size, List.length_reverse]
  have := rd_len 12 m (by omega)
  have e : (⟨#[]⟩ : ByteArray).size = 0 := rfl
  omega
theorem digs_some {m : Nat} (h : 0 < m) : 1 ≤ (digs m ⟨#[]⟩).size := by
  rw [digs_rd, ByteArray.size_append, strOfNums_size, List.length_reverse, rd_pos (by omega)]
  simp; omega
theorem fmtB_size {n : Int} (h : -1 ≤ n ∧ n < 1000000000000) : (fmtB n).size ≤ 13 := by
  unfold fmtB
  split
  · decide
  · split
    · have := digs_size (m := n.natAbs) (by omega)
      rw [ByteArray.size_append]
      have e : (⟨#[45]⟩ : ByteArray).size = 1 := rfl
      omega
    · have := digs_size (m := n.natAbs) (by omega)
      omega
theorem fmtB_some {n : Int} (h : -1 ≤ n ∧ n < 1000000000000) : 1 ≤ (fmtB n).size := by
  unfold fmtB
  split
  · decide
  · split
    · rw [ByteArray.size_append]
      have e : (⟨#[45]⟩ : ByteArray).size = 1 := rfl
      omega
    · exact digs_some (by omega)
/-- the first k texts of f, with s between them -/
def jn (s : ByteArray) (f : Nat → ByteArray) : Nat → ByteArray
  | 0 => ⟨#[]⟩
  | k + 1 => (if 0 < k then jn s f k ++ s else jn s f k) ++ f k
theorem jn_first (s : ByteArray) (f : Nat → ByteArray) : jn s f 1 = ⟨#[]⟩ ++ f 0 := rfl
theorem jn_next (s : ByteArray) (f : Nat → ByteArray) {k : Nat} (h : 0 < k) : jn s f (k + 1) = (jn s f k ++ s) ++ f k := by
  show (if 0 < k then _ else _) ++ _ = _
  rw [if_pos h]
theorem jn_size (s : ByteArray) (f : Nat → ByteArray) (hs : s.size ≤ 1) : ∀ k, (∀ i, i < k → (f i).size ≤ 13) → (jn s f k).size ≤ 14 * k := by
  intro k
  induction k with
  | zero => intro _; exact Nat.le_refl _
  | succ k ih =>
    intro h
    have h1 := ih (fun i hi => h i (by omega))
    have h2 := h k (by omega)
    unfold jn
    split <;> simp only [ByteArray.size_append] <;> omega
theorem jn_some (s : ByteArray) (f : Nat → ByteArray) (k : Nat) (h : 0 < k) (hf : ∀ i, i < k → 1 ≤ (f i).size) : 1 ≤ (jn s f k).size := by
  obtain ⟨j, rfl⟩ : ∃ j, k = j + 1 := ⟨k - 1, by omega⟩
  have := hf j (by omega)
  unfold jn
  rw [ByteArray.size_append]; omega
theorem str_some {t : ByteArray} (h : 1 ≤ t.size) : t.toList.isEmpty = false := by
  rw [ByteArray.toList_eq, List.isEmpty_eq_false_iff]
  intro h2
  have h3 : t.data.toList.length = 0 := by rw [h2]; rfl
  rw [Array.length_toList] at h3
  have h4 : t.size = t.data.size := rfl
  omega
def clampF (x : Int) : Int := min (max x (-1)) 99
theorem clampF_in (x : Int) : -1 ≤ clampF x ∧ clampF x < 1000000000000 := by unfold clampF; omega
--%call narrow 73 same narrow_any _ _
theorem narrow_any (x : Int) (w : World) :
    Calls Try.prog 73 #[.int .i64 x] w fun e w' => e = .returned (.int .i64 (clampF x)) ∧ w = w' := by
  rcases (by omega : x < -1 ∨ (-1 ≤ x ∧ x ≤ 99) ∨ 99 < x) with h | ⟨h, h2⟩ | h
  · have He : Hid (clampF x = -1) := Lib.hid (by unfold clampF; omega)
    go_enter Try.func73, Try.ntmps73
    go_wp2_with fail
    go_ret
    exact ⟨by rw [He.out]; rfl, rfl⟩
  · have He : Hid (clampF x = x) := Lib.hid (by unfold clampF; omega)
    go_enter Try.func73, Try.ntmps73
    go_wp2_with fail
    go_ret
    exact ⟨by rw [He.out]; rfl, rfl⟩
  · have He : Hid (clampF x = 99) := Lib.hid (by unfold clampF; omega)
    go_enter Try.func73, Try.ntmps73
    go_wp2_with fail
    go_ret
    exact ⟨by rw [He.out]; rfl, rfl⟩
def comma : ByteArray := ⟨#[44]⟩
def clS (l : List Int) (k : Nat) : ByteArray := fmtB (clampF (nth l k))
theorem clS_size (l : List Int) (k : Nat) : (clS l k).size ≤ 13 := fmtB_size (clampF_in _)
theorem clS_some (l : List Int) (k : Nat) : 1 ≤ (clS l k).size := fmtB_some (clampF_in _)
def shortF (l : List Int) : ByteArray := if l.length = 0 ∨ 40 < l.length then ⟨#[110, 111, 110, 101]⟩ else jn comma (clS l) l.length
--%call sNumbers 71 ext sNumbers_any _ _ _ ({0})
theorem sNumbers_any (v : Value) (l : List Int) (w : World) (h : Ints w v l) :
    Calls Try.prog 71 #[v] w fun e w' => e = .returned (.string (shortF l)) ∧ Ext w w' := by
  obtain ⟨ao, c, adr, rfl, hlen, hadr, hcell⟩ := h.op
  have hix := ints_index (c := c) elI szI hadr
  clear hadr h
  by_cases hb : 40 < l.length
  · have He : Hid (shortF l = ⟨#[110, 111, 110, 101]⟩) := Lib.hid (by unfold shortF; rw [if_pos (Or.inr hb)])
    have hb2 : ¬ l.length ≤ 40 := by omega
    go_enter Try.func71, Try.ntmps71
    go_wp2_with fail
    go_loopw [3, 4] (fun s i wr => i = .int .i64 0 ∧ s = .string ⟨#[]⟩ ∧ Ext w wr) (fun _ _ _ => 0)
    case atStart => exact ⟨rfl, rfl, Ext.refl _⟩
    case round =>
      obtain ⟨rfl, rfl, hE⟩ := hrel
      have hp : 0 < l.length := by omega
      go_wp2_with fail
      go_ret
      exact ⟨ret_str He.out.symm, hE⟩
  · have hb2 : l.length ≤ 40 := by omega
    clear hb
    go_enter Try.func71, Try.ntmps71
    go_wp2_with fail
    go_loopw [3, 4] (fun s i wr => ∃ (k : Nat) (t : ByteArray), k ≤ l.length ∧ i = .int .i64 k ∧ s = .string t ∧ Hid (t = jn comma (clS l) k) ∧ Ext w wr) (fun _ i _ => l.length - (intOf i).toNat)
    case atStart => exact ⟨0, _, by omega, rfl, rfl, Lib.hid rfl, Ext.refl _⟩
    case round =>
      obtain ⟨k, t, hk, rfl, rfl, Ht, hE⟩ := hrel
      have hts : t.size ≤ 14 * k := by rw [Ht.out]; exact jn_size _ _ (by decide) k fun i _ => clS_size l i
      by_cases hlt : k < l.length
      · have hck := hcell k _ hlt hE
        rcases (by omega : nth l k ≤ -1 ∨ (-1 < nth l k ∧ nth l k < 99) ∨ 99 ≤ nth l k) with h | ⟨h, h2⟩ | h
        · have hA : nth l k < 99 := by omega
          have hB : ¬ -1 < nth l k := by omega
          have He : Hid (clS l k = fmtB (-1)) := Lib.hid (by unfold clS; congr 1; unfold clampF; omega)
          have hcF := sFormatInt_any (-1) (by omega)
          have hsz : (fmtB (-1)).size ≤ 13 := fmtB_size (by omega)
          obtain ⟨u, hu⟩ : ∃ u, u = fmtB (-1) := ⟨_, rfl⟩
          rw [← hu] at hsz hcF He
          clear hu
          by_cases hk0 : 0 < k
          · have hk1 : (0:Int) < k := by omega
            go_wp2_with (with_reducible refine (hcF _).mono ?_; rintro e w1 ⟨rfl, hE1⟩)
            go_roundw
            case rel => exact ⟨k + 1, _, by omega, by go_num, rfl, Lib.hid (by rw [jn_next _ _ hk0, ← Ht.out, He.out]; rfl), hE.trans hE1⟩
            case measure => (simp [intOf]; omega)
          · have hk1 : k = 0 := by omega
            subst hk1
            have hix0 : ∀ W, (Instr.indexAt 22 (.slice ao l.length c) (.int .i64 0)).run Try.prog W = .ok (.pointer (some (adr 0))) W := fun W => by simpa using hix 0 W hlt
            go_wp2_with (with_reducible refine (hcF _).mono ?_; rintro e w1 ⟨rfl, hE1⟩)
            go_roundw
            case rel => exact ⟨1, _, by omega, rfl, rfl, Lib.hid (by rw [jn_first, He.out, Ht.out]; rfl), hE.trans hE1⟩
            case measure => (simp [intOf]; omega)
        · skip
          have He : Hid (clS l k = fmtB (nth l k)) := Lib.hid (by unfold clS; congr 1; unfold clampF; omega)
          have hcF := sFormatInt_any (nth l k) (by omega)
          have hsz : (fmtB (nth l k)).size ≤ 13 := fmtB_size (by omega)
          obtain ⟨u, hu⟩ : ∃ u, u = fmtB (nth l k) := ⟨_, rfl⟩
          rw [← hu] at hsz hcF He
          clear hu
          by_cases hk0 : 0 < k
          · have hk1 : (0:Int) < k := by omega
            go_wp2_with (with_reducible refine (hcF _).mono ?_; rintro e w1 ⟨rfl, hE1⟩)
            go_roundw
            case rel => exact ⟨k + 1, _, by omega, by go_num, rfl, Lib.hid (by rw [jn_next _ _ hk0, ← Ht.out, He.out]; rfl), hE.trans hE1⟩
            case measure => (simp [intOf]; omega)
          · have hk1 : k = 0 := by omega
            subst hk1
            have hix0 : ∀ W, (Instr.indexAt 22 (.slice ao l.length c) (.int .i64 0)).run Try.prog W = .ok (.pointer (some (adr 0))) W := fun W => by simpa using hix 0 W hlt
            go_wp2_with (with_reducible refine (hcF _).mono ?_; rintro e w1 ⟨rfl, hE1⟩)
            go_roundw
            case rel => exact ⟨1, _, by omega, rfl, rfl, Lib.hid (by rw [jn_first, He.out, Ht.out]; rfl), hE.trans hE1⟩
            case measure => (simp [intOf]; omega)
        · have hA : ¬ nth l k < 99 := by omega
          have He : Hid (clS l k = fmtB (99)) := Lib.hid (by unfold clS; congr 1; unfold clampF; omega)
          have hcF := sFormatInt_any (99) (by omega)
          have hsz : (fmtB (99)).size ≤ 13 := fmtB_size (by omega)
          obtain ⟨u, hu⟩ : ∃ u, u = fmtB (99) := ⟨_, rfl⟩
          rw [← hu] at hsz hcF He
          clear hu
          by_cases hk0 : 0 < k
          · have hk1 : (0:Int) < k := by omega
            go_wp2_with (with_reducible refine (hcF _).mono ?_; rintro e w1 ⟨rfl, hE1⟩)
            go_roundw
            case rel => exact ⟨k + 1, _, by omega, by go_num, rfl, Lib.hid (by rw [jn_next _ _ hk0, ← Ht.out, He.out]; rfl), hE.trans hE1⟩
            case measure => (simp [intOf]; omega)
          · have hk1 : k = 0 := by omega
            subst hk1
            have hix0 : ∀ W, (Instr.indexAt 22 (.slice ao l.length c) (.int .i64 0)).run Try.prog W = .ok (.pointer (some (adr 0))) W := fun W => by simpa using hix 0 W hlt
            go_wp2_with (with_reducible refine (hcF _).mono ?_; rintro e w1 ⟨rfl, hE1⟩)
            go_roundw
            case rel => exact ⟨1, _, by omega, rfl, rfl, Lib.hid (by rw [jn_first, He.out, Ht.out]; rfl), hE.trans hE1⟩
            case measure => (simp [intOf]; omega)
      · have hkl : k = l.length := by omega
        subst hkl
        by_cases h0 : l.length = 0
        · have He : Hid (shortF l = ⟨#[110, 111, 110, 101]⟩) := Lib.hid (by unfold shortF; rw [if_pos (Or.inl h0)])
          have ht0 : t = ⟨#[]⟩ := by rw [Ht.out, h0]; rfl
          subst ht0
          clear h0 hts
          go_wp2_with fail
          go_ret
          exact ⟨ret_str He.out.symm, hE⟩
        · have He : Hid (shortF l = t) := Lib.hid (by unfold shortF; rw [if_neg (by omega), Ht.out])
          have h1 := jn_some comma (clS l) l.length (by omega) fun i _ => clS_some l i
          rw [← Ht.out] at h1
          have ht1 := str_some h1
          go_wp2_with fail
          go_ret
          exact ⟨ret_str He.out.symm, hE⟩
end Go.Zz
