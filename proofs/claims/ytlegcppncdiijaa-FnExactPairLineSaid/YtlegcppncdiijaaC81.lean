/- Lines: texts with single spaces between. -/
import Derived.Test.YtlegcppncdiijaaC59
namespace Go.Zz
open Go.RowKit Go.Proofs
set_option maxHeartbeats 400000
set_option maxRecDepth 4000

theorem jn_size2 (s : ByteArray) (f : Nat → ByteArray) (hs : s.size ≤ 1) : ∀ k, (∀ i, i < k → (f i).size ≤ 5000) → (jn s f k).size ≤ 5001 * k := by
  intro k
  induction k with
  | zero => intro _; exact Nat.le_refl _
  | succ k ih =>
    intro h
    have h1 := ih (fun i hi => h i (by omega))
    have h2 := h k (by omega)
    unfold jn
    split <;> simp only [ByteArray.size_append] <;> omega
def spB : ByteArray := ⟨#[32]⟩
def lineF (l : List ByteArray) : ByteArray := jn spB (nthS l) l.length
theorem glued_big (v : Value) (l : List ByteArray) (s : ByteArray) (w : World) (h : Strs w v l) (hs : s.size ≤ 1) (hl : ∀ i, i < l.length → (nthS l i).size ≤ 5000) (hn : l.length ≤ 100) :
    Calls Try.prog 198 #[v, .string s] w fun e w' => e = .returned (.string (jn s (nthS l) l.length)) ∧ w = w' := by
  obtain ⟨ao, c, rfl, hlen, hcell⟩ := h
  have hix : ∀ (i : Nat) W, i < l.length → ∃ g, ao = some ⟨g, 0, none⟩ ∧ (Instr.indexAt 115 (.slice ao l.length c) (.int .i64 (i : Int))).run Try.prog W = .ok (.pointer (some ⟨g, i, none⟩)) W := by
    intro i W hi
    obtain ⟨g, rfl, -⟩ := hcell i hi
    refine ⟨g, rfl, ?_⟩
    rw [run_indexAt_slice (h := elS), if_pos (by omega), szS]
    simp [Result.andThen, Addr.add_lit]
  have Hl := Lib.hid hl
  clear hl
  go_enter Try.func198, Try.ntmps198
  go_wp2_with fail
  go_loop [5, 10] (fun t i => ∃ (k : Nat) (u : ByteArray), k ≤ l.length ∧ i = .int .i64 k ∧ t = .string u ∧ Hid (u = jn s (nthS l) k)) (fun _ i => l.length - (intOf i).toNat)
  case atStart => exact ⟨0, _, by omega, rfl, rfl, Lib.hid rfl⟩
  case round =>
    obtain ⟨k, u, hk, rfl, rfl, Hu⟩ := hrel
    have hus : u.size ≤ 5001 * k := by rw [Hu.out]; exact jn_size2 _ _ hs k fun i hi => Hl.out i (by omega)
    by_cases hlt : k < l.length
    · obtain ⟨g, hg, hix1⟩ := hix k w hlt
      obtain ⟨g', hg', hck⟩ := hcell k hlt
      have hgg : g' = g := by rw [hg] at hg'; simp only [Option.some.injEq, Addr.mk.injEq, and_true] at hg'; exact hg'.symm
      subst hgg
      clear hix hcell
      subst hg
      have hys := Hl.out k hlt
      obtain ⟨y, hy⟩ : ∃ y, y = nthS l k := ⟨_, rfl⟩
      rw [← hy] at hck hys
      have Hy := Lib.hid hy
      clear hy
      by_cases hk0 : 0 < k
      · have hk1 : (0:Int) < k := by omega
        go_wp2_with fail
        go_round
        case rel => exact ⟨k + 1, _, by omega, by go_num, rfl, Lib.hid (by rw [jn_next _ _ hk0, ← Hu.out, Hy.out])⟩
        case measure => (simp [intOf]; omega)
      · have hk1 : k = 0 := by omega
        subst hk1
        go_wp2_with fail
        go_round
        case rel => exact ⟨1, _, by omega, rfl, rfl, Lib.hid (by rw [jn_first, Hu.out, Hy.out]; rfl)⟩
        case measure => (simp [intOf]; omega)
    · have hkl : k = l.length := by omega
      subst hkl
      clear hix hcell
      go_wp2_with fail
      go_ret
      exact ⟨ret_str Hu.out, rfl⟩
theorem line_any (v : Value) (l : List ByteArray) (w : World) (h : Strs w v l) (hl : ∀ i, i < l.length → (nthS l i).size ≤ 5000) (hn : l.length ≤ 100) :
    Calls Try.prog 104 #[v] w fun e w' => e = .returned (.string (lineF l)) ∧ w = w' := by
  have hc := glued_big v l spB w h (by decide) hl hn
  go_enter Try.func104, Try.ntmps104
  go_wp2_with (refine hc.mono ?_; rintro e w' ⟨rfl, rfl⟩)
  go_ret
  exact ⟨rfl, rfl⟩
/-- a slice of strings that a call has just built -/
theorem strs_lit (w : World) (l : List ByteArray) (T : TypeId) (hn : l.length ≤ 1000000) : Strs (w.alloc (.cells (l.map Value.string).toArray T)) (.slice (some ⟨w.heap.size, 0, none⟩) l.length l.length) l := by
  refine ⟨_, l.length, rfl, hn, fun i hi => ⟨_, rfl, ?_⟩⟩
  have := (Blk.new w T (l.map Value.string).toArray).cell (i := i) (v := .string (nthS l i)) (by simp [nthS, List.getD, hi])
  exact this
theorem Strs.ext {w w' : World} {v : Value} {l : List ByteArray} (h : Strs w v l) (hE : Ext w w') : Strs w' v l := by
  obtain ⟨ao, c, rfl, hn, hc⟩ := h
  exact ⟨ao, c, rfl, hn, fun i hi => by obtain ⟨g, rfl, hcc⟩ := hc i hi; exact ⟨g, rfl, hE.cell hcc⟩⟩
end Go.Zz
