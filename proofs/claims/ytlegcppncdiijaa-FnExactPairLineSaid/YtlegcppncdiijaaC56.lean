/- Slices of bytes that a call makes; the reversal of a list in place. -/
import Derived.Test.YtlegcppncdiijaaC55
namespace Go.Zz
open Go.RowKit Go.Proofs
set_option maxHeartbeats 400000

def revk (l : List Int) (k : Nat) : List Int := (List.range l.length).map fun i => if i < k ∨ l.length ≤ i + k then nth l (l.length - 1 - i) else nth l i
theorem revk_len (l : List Int) (k : Nat) : (revk l k).length = l.length := by simp [revk]
theorem revk_get (l : List Int) (k i : Nat) (h : i < l.length) : nth (revk l k) i = if i < k ∨ l.length ≤ i + k then nth l (l.length - 1 - i) else nth l i := by
  simp [revk, nth, h]
theorem nth_ext {a b : List Int} (h : a.length = b.length) (H : ∀ i, i < a.length → nth a i = nth b i) : a = b := by
  apply List.ext_getElem h
  intro i h1 h2
  have := H i h1
  simpa [nth, h1, h2] using this
theorem nth_set (l : List Int) (k i : Nat) (y : Int) : nth (l.set k y) i = if i = k ∧ k < l.length then y else nth l i := by
  unfold nth
  by_cases h : i = k
  · subst h
    by_cases h2 : i < l.length
    · simp [h2]
    · simp [h2]
  · simp [h, List.getElem?_set_ne (Ne.symm h)]
theorem revk_zero (l : List Int) : revk l 0 = l := nth_ext (revk_len _ _) fun i hi => by
  rw [revk_len] at hi
  rw [revk_get _ _ _ hi, if_neg (by omega)]
theorem revk_end (l : List Int) (k : Nat) (h : l.length ≤ 2 * k + 1) : revk l k = l.reverse := nth_ext (by rw [revk_len]; simp) fun i hi => by
  rw [revk_len] at hi
  have e : nth l.reverse i = nth l (l.length - 1 - i) := by
    rw [nth_get _ _ (by simpa using hi), nth_get _ _ (by omega)]; simp
  rw [revk_get _ _ _ hi, e]
  split
  · rfl
  · rw [show l.length - 1 - i = i by omega]
theorem revk_step (l : List Int) (k : Nat) (h : 2 * k + 1 < l.length) :
    ((revk l k).set k (nth (revk l k) (l.length - 1 - k))).set (l.length - 1 - k) (nth (revk l k) k) = revk l (k + 1) := nth_ext (by simp [revk_len]) fun i hi => by
  simp only [List.length_set, revk_len] at hi
  rw [nth_set, nth_set, revk_get _ _ _ hi, revk_get _ _ _ hi, revk_get _ _ _ (show l.length - 1 - k < l.length by omega), revk_get _ _ _ (show k < l.length by omega)]
  simp only [List.length_set, revk_len]
  by_cases h1 : i = l.length - 1 - k
  · rw [if_pos ⟨h1, by omega⟩, if_neg (by omega), if_pos (by omega), h1, show l.length - 1 - (l.length - 1 - k) = k by omega]
  · rw [if_neg (by omega)]
    by_cases h2 : i = k
    · rw [if_pos ⟨h2, by omega⟩, if_neg (by omega), if_pos (by omega), h2]
    · rw [if_neg (by omega)]
      by_cases h3 : i < k ∨ l.length ≤ i + k
      · rw [if_pos h3, if_pos (by omega)]
      · rw [if_neg h3, if_neg (by omega)]

theorem infoB : (Try.prog.info? 5).map (fun i => (i.zero, i.size, i.bytes)) = some (some (.int .u8 0), 1, 1) := by kernel_rfl
theorem undB : Try.prog.underlying 42 = some (.slice 5) := by kernel_rfl
/-- v is a slice of bytes of the call's own, which reads as l -/
def OwnB (w0 w : World) (v : Value) (l : List Int) : Prop :=
  w.ownsRow w0.heap.size 5 1 v l.length (l.map (Value.int .u8)) ∧ l.length ≤ 17592186044416
theorem OwnB.alloc {w0 w : World} {v : Value} {l : List Int} (h : OwnB w0 w v l) (o : Obj) : OwnB w0 (w.alloc o) v l := ⟨h.1.alloc o, h.2⟩
theorem OwnB.blk {w0 w : World} {v : Value} {l : List Int} (h : OwnB w0 w v l) : ∀ k, v.ownBlock = some k → w0.heap.size ≤ k ∧ k < w.heap.size := h.1.lt
theorem OwnB.shape {w0 w : World} {v : Value} {l : List Int} (h : OwnB w0 w v l) (h0 : 0 < l.length) :
    ∃ (g c : Nat), v = .slice (some ⟨g, 0, none⟩) l.length c ∧ l.length ≤ c ∧ w0.heap.size ≤ g ∧ g < w.heap.size ∧
      (∀ i, i < l.length → w.cell? ⟨g, i, none⟩ = some (.int .u8 (nth l i)) ∧ w.frozen? ⟨g, i, none⟩ = false) := by
  obtain ⟨h1, h2⟩ := h
  rcases h1.2 with ⟨rfl, hl⟩ | ⟨g, cap, cur, rfl, hg, hh, hc, r⟩
  · omega
  · refine ⟨g, cap, rfl, hc, hg, (Array.getElem?_eq_some_iff.1 hh).1, fun i hi => ⟨?_, World.ownsRow.frozenAt h1 i⟩⟩
    rw [World.ownsRow.cellAt h1 i (by omega)]
    simp [nth, List.getD, hi]
theorem ownB_made {w0 w : World} (hE : Ext w0 w) : OwnB w0 (w.alloc (.cells #[] 5)) (.slice (some ⟨w.heap.size, 0, none⟩) 0 0) [] := by
  have := World.ownsRow_lit (base := w0.heap.size) (e := 5) (size := 1) w #[] 0 hE.size (by unfold maxLen; omega) (by simp)
  exact ⟨by simpa using this, by simp⟩
theorem OwnB.stored {w0 w : World} {g c : Nat} {l : List Int} (h : OwnB w0 w (.slice (some ⟨g, 0, none⟩) l.length c) l) (j : Nat) (y : Int) :
    OwnB w0 (w.setCell ⟨g, j, none⟩ (.int .u8 y)) (.slice (some ⟨g, 0, none⟩) l.length c) (l.set j y) := by
  have h1 := (World.ownsRow.stored h.1 j (.int .u8 y)).1
  refine ⟨?_, by simpa using h.2⟩
  simpa [List.map_set] using h1
theorem OwnB.grown {w0 w : World} {g c : Nat} {l : List Int} (h : OwnB w0 w (.slice (some ⟨g, 0, none⟩) l.length c) l) (j : Nat) (y : Int) :
    w.grownBy (w.setCell ⟨g, j, none⟩ (.int .u8 y)) (Value.slice (some ⟨g, 0, none⟩) l.length c).ownBlock := (World.ownsRow.stored h.1 j (.int .u8 y)).2
section
variable {ops : Array Oper} {rest : List Oper} {o : Oper} {a : Act} {Q : Exit → Act → World → Prop}
theorem wp_append1B (hg : o.guard = none) (s x : Operand) (hop : o.op = Op.call { callee := Callee.builtin Builtin.append, args := #[s, x], argTypes := #[42, 42] })
    (w0 W : World) (v : Value) (l : List Int) (y : Int) (hO : OwnB w0 W v l) (hE : Ext w0 W) (hn : l.length < 17592186044416) (hs : a.eval s = v) (hx : a.eval x = .slice (some ⟨W.heap.size, 0, none⟩) 1 1)
    (hK : ∀ v' w', OwnB w0 w' v' (l ++ [y]) → Ext w0 w' → wpList Try.prog ops Q rest (a.put o.dst v') w') :
    wpList Try.prog ops Q (o :: rest) a (W.alloc (.cells #[.int .u8 y] 5)) := by
  obtain ⟨i, hi, hz, hs1, hby⟩ := info_parts infoB
  refine wpList_append_own _ hg s x 42 hop w0.heap.size 5 i (.int .u8 0) 1 1 undB hi hz hs1 hby rfl (by omega) v l.length _ hs (hO.alloc _).1 ⟨W.heap.size, 0, none⟩ 1 1 [.int .u8 y] hx rfl ?_ (by simp [Value.oneCell']) (by unfold maxLen; omega) (by omega) (by have := hE.size; simp; omega) ?_
  · exact cell_one_new _ _ _
  · intro v' w' h1 hg' _
    have hE1 := hE.alloc (.cells #[.int .u8 y] 5)
    refine hK v' w' ⟨by simpa using h1, by simp; omega⟩ (hE1.grown hg' fun k hk => (hO.blk k hk).1)
end
end Go.Zz
