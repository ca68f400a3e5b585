/- numbers and short of the program. -/
import Derived.Test.YtlegcppncdiijaaC59
namespace Go.Zz
open Go.RowKit Go.Proofs
set_option maxHeartbeats 400000
set_option maxRecDepth 4000

theorem jn_congr (s : ByteArray) (f g : Nat → ByteArray) : ∀ k, (∀ i, i < k → f i = g i) → jn s f k = jn s g k := by
  intro k
  induction k with
  | zero => intro _; rfl
  | succ k ih => intro h; unfold jn; rw [ih fun i hi => h i (by omega), h k (by omega)]
theorem nthS_map (l : List Int) (i : Nat) (h : i < l.length) : nthS (l.map fmtB) i = fmtB (nth l i) := by
  simp [nthS, nth, List.getD, h]
def numF (l : List Int) : ByteArray := if l.length = 0 then ⟨#[110, 111, 110, 101]⟩ else jn comma (fun i => fmtB (nth l i)) l.length
theorem take_fmt (l : List Int) (k : Nat) (h : k < l.length) : (l.take (k + 1)).map fmtB = (l.take k).map fmtB ++ [fmtB (nth l k)] := by
  rw [List.take_add_one, List.map_append]
  simp [nth, List.getD, h]
theorem numbers_any (v : Value) (l : List Int) (w : World) (h : Ints w v l) (hr : ∀ i, i < l.length → -1 ≤ nth l i ∧ nth l i < 1000000000000) (hl : l.length ≤ 1000) :
    Calls Try.prog 199 #[v] w fun e w' => e = .returned (.string (numF l)) ∧ Ext w w' := by
  obtain ⟨ao, c, adr, rfl, hlen, hadr, hcell⟩ := h.op
  have hix := ints_index (c := c) elI szI hadr
  clear hadr h
  have Hr := Lib.hid hr
  clear hr
  have hO0 := ownS_made (Ext.refl w)
  have hE0 := (Ext.refl w).alloc (.cells #[] 9)
  by_cases h0 : l.length = 0
  · have He : Hid (numF l = ⟨#[110, 111, 110, 101]⟩) := Lib.hid (by unfold numF; rw [if_pos h0])
    go_enter Try.func199, Try.ntmps199
    go_wp2_with fail
    go_ret
    exact ⟨ret_str He.out.symm, Ext.refl _⟩
  · have h00 : ((l.length : Int) == 0) = false := by rw [beq_eq_false_iff_ne]; omega
    have He : Hid (numF l = jn comma (nthS (l.map fmtB)) (l.map fmtB).length) := Lib.hid (by
      unfold numF; rw [if_neg h0, List.length_map]
      exact jn_congr _ _ _ _ fun i hi => (nthS_map l i hi).symm)
    go_enter Try.func199, Try.ntmps199
    go_wp2_with fail
    go_loopw [3, 12] (fun v i wr => ∃ k : Nat, k ≤ l.length ∧ i = .int .i64 k ∧ OwnS w wr v ((l.take k).map fmtB) ∧ Ext w wr) (fun _ i _ => l.length - (intOf i).toNat)
    case atStart => exact ⟨0, by omega, rfl, hO0, hE0⟩
    case round =>
      obtain ⟨k, hk, rfl, hO, hE⟩ := hrel
      by_cases hlt : k < l.length
      · have hck := hcell k _ hlt hE
        have hrk := Hr.out k hlt
        have hcI := FormatInt_any (nth l k) hrk
        have hlk : ((l.take k).map fmtB).length < 1000000 := by rw [List.length_map, List.length_take]; omega
        go_wp2_with (first | (go_at_call 106; with_reducible refine (hcI _).mono ?_; rintro e wc ⟨rfl, hEc⟩) | (at_builtin; refine wp_append1S rfl _ _ rfl w _ _ _ _ (hO.ext hEc) (hE.trans hEc) hlk rfl rfl ?_; intro v1 w1 hO1 hE1))
        go_roundw
        case rel => exact ⟨k + 1, by omega, by go_num, by rw [take_fmt _ _ hlt]; exact hO1, hE1⟩
        case measure => (simp [intOf]; omega)
      · have hkl : k = l.length := by omega
        subst hkl
        rw [List.take_length] at hO
        have hS := hO.strs
        have hc := glued_any _ (l.map fmtB) comma _ hS (by decide) (fun i hi => by
          rw [List.length_map] at hi
          rw [nthS_map l i hi]; exact fmtB_size (Hr.out i hi))
        go_wp2_with (refine hc.mono ?_; rintro e w1 ⟨rfl, rfl⟩)
        go_ret
        exact ⟨ret_str (by rw [He.out, List.length_map]), hE⟩
theorem shortF_eq (l : List Int) (h : l.length ≤ 40) : shortF l = numF (l.map clampF) := by
  unfold shortF numF
  rw [List.length_map]
  by_cases h0 : l.length = 0
  · rw [if_pos (Or.inl h0), if_pos h0]
  · rw [if_neg (by omega), if_neg h0]
    exact jn_congr _ _ _ _ fun i hi => by simp [clS, nth, List.getD, hi]
theorem take_clamp (l : List Int) (k : Nat) (h : k < l.length) : (l.take (k + 1)).map clampF = (l.take k).map clampF ++ [clampF (nth l k)] := by
  rw [List.take_add_one, List.map_append]
  simp [nth, List.getD, h]
theorem nth_map_clamp (l : List Int) (i : Nat) (h : i < (l.map clampF).length) : -1 ≤ nth (l.map clampF) i ∧ nth (l.map clampF) i < 1000000000000 := by
  rw [List.length_map] at h
  have e : nth (l.map clampF) i = clampF (nth l i) := by simp [nth, List.getD, h]
  rw [e]; exact clampF_in _
end Go.Zz
