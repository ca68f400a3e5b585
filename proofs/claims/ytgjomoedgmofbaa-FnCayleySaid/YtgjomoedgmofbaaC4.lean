/- What the laws' own helpers on groups do. -/
import Derived.Test.YtgjomoedgmofbaaC3
namespace Go.Zz
open Go.RowKit Go.Proofs
set_option maxHeartbeats 400000

--%call szGroup 100 ext szGroup_any _ _ _ _ ({0}) ({1}) ({2})
theorem szGroup_any (v : Value) (l : List Int) (left : Int) (w : World) (h : Ints w v l) (h1 : 0 ≤ left) (h2 : left ≤ 1048576) :
    Calls Try.prog 100 #[.agg #[v], .int .i64 left] w fun e w' => e = .returned (.int .i64 (szL l left)) ∧ Ext w w' := by
  have hE0 := (Ext.refl w).alloc (.cells #[v] 71)
  have hE := Ext.refl (w.alloc (.cells #[v] 71))
  have hb := box_cell w v 71
  have hg : ∀ W, Ext (w.alloc (.cells #[v] 71)) W → Ints W v l := fun W hW => h.ext (hE0.trans hW)
  clear h
  have hlt : szL l left = -1 ∨ 0 ≤ szL l left := by unfold szL; split <;> omega
  rcases hlt with hs | hs
  · have hs2 : szL l left < 0 := by omega
    have Hs := Lib.hid hs
    clear hs
    go_enter Try.func100, Try.ntmps100
    go_wp2_with (first | (go_at_call 181; refine (szIntS_any _ _ _ _ (hg _ hE) (h1) (h2)).mono ?_; rintro e w' ⟨rfl, rfl⟩))
    go_ret
    exact ⟨ret_int Hs.out.symm, hE0⟩
  · go_enter Try.func100, Try.ntmps100
    go_wp2_with (first | (go_at_call 181; refine (szIntS_any _ _ _ _ (hg _ hE) (h1) (h2)).mono ?_; rintro e w' ⟨rfl, rfl⟩))
    go_ret
    exact ⟨ret_int rfl, hE0⟩

theorem eqGroup_any0 : True := trivial
--%call eqGroup 104 ext eqGroup_any _ _ _ _ _ ({0}) ({1})
theorem eqGroup_any (v u : Value) (l m : List Int) (w : World) (h : Ints w v l) (k : Ints w u m) :
    Calls Try.prog 104 #[.agg #[v], .agg #[u]] w fun e w' => e = .returned (.bool (decide (l = m))) ∧ Ext w w' := by
  have hE0 := ((Ext.refl w).alloc (.cells #[v] 26)).alloc (.cells #[u] 26)
  have hE := Ext.refl ((w.alloc (.cells #[v] 26)).alloc (.cells #[u] 26))
  have hI1 := h.ext hE0
  have hI2 := k.ext hE0
  clear h k
  by_cases e : l = m
  · have hd : decide (l = m) = true := by simp [e]
    clear e
    go_enter Try.func104, Try.ntmps104
    go_wp2_with (first | (go_at_call 34; refine (eqIntS_any _ _ _ _ _ (hI1) (hI2)).mono ?_; rintro e w' ⟨rfl, hE'⟩; replace hE := hE.trans hE'; clear hE'))
    go_ret
    exact ⟨ret_bool hd.symm, hE0.trans hE⟩
  · have hd : decide (l = m) = false := by simp [e]
    clear e
    go_enter Try.func104, Try.ntmps104
    go_wp2_with (first | (go_at_call 34; refine (eqIntS_any _ _ _ _ _ (hI1) (hI2)).mono ?_; rintro e w' ⟨rfl, hE'⟩; replace hE := hE.trans hE'; clear hE'))
    go_ret
    exact ⟨ret_bool hd.symm, hE0.trans hE⟩

--%call toGroup 102 own toGroup_any _ _ _ ({0})
theorem toGroup_any (v : Value) (l : List Int) (w : World) (h : Ints w v l) :
    Calls Try.prog 102 #[.agg #[v]] w fun e w' => ∃ v', e = .returned (.agg #[v']) ∧ Own 3 w w' v' l ∧ Ext w w' := by
  have hE0 := (((Ext.refl w).alloc (.cells #[v] 71)).alloc (.cells #[.slice none 0 0] 26)).alloc (.cells #[.slice none 0 0] 26)
  obtain ⟨wb, hwb⟩ : ∃ wb, wb = ((w.alloc (.cells #[v] 71)).alloc (.cells #[.slice none 0 0] 26)).alloc (.cells #[.slice none 0 0] 26) := ⟨_, rfl⟩
  have c1 : wb.cell? ⟨w.heap.size + 1, 0, none⟩ = some (.slice none 0 0) := by rw [hwb]; simp [go_sem]
  have c2 : wb.cell? ⟨w.heap.size + 1 + 1, 0, none⟩ = some (.slice none 0 0) := by rw [hwb]; simp [go_sem]
  have f1 : wb.frozen? ⟨w.heap.size + 1, 0, none⟩ = false := by rw [hwb]; simp [go_sem]
  have f2 : wb.frozen? ⟨w.heap.size + 1 + 1, 0, none⟩ = false := by rw [hwb]; simp [go_sem]
  have k1 := cell_in c1
  have k2 := cell_in c2
  have g1 := free_in c1 f1
  have g2 := free_in c2 f2
  rw [← hwb] at hE0
  have hI := h.ext hE0
  have hs : wb.heap.size = w.heap.size + 3 := by rw [hwb]; simp
  clear c1 c2 f1 f2 h
  have Hwb := Lib.hid hwb
  clear hwb
  go_enter Try.func102, Try.ntmps102
  go_wp2_with fail
  rw [← Hwb.out]
  refine (toIntS_any _ _ _ hI).mono ?_
  rintro e w' ⟨v', rfl, hO, hE⟩
  obtain ⟨ao', c', rfl, -⟩ := hO.shape
  have k1' := k1 _ hE
  have k2' := k2 _ hE
  have g1' := g1 _ hE
  have g2' := g2 _ hE
  have Hs := Lib.hid hs
  clear hs
  go_wp2_with fail
  refine bodyPost_ret (v := .agg #[.slice ao' l.length c']) (by simp [results, Try.results102, k1', go_sem]) rfl ⟨_, rfl, ?_, ?_⟩
  · exact ((hO.setCell_below (by rw [Hs.out]; simp) _).setCell_below (by rw [Hs.out]; simp) _).mono hE0
  · exact ((hE0.trans hE).setCell (by simp [Nat.add_assoc]) _).setCell (by simp) _
end Go.Zz
