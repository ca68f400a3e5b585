/- FormatGroup of the program. -/
import Derived.Test.YtopmhjmjmdohhaaC62
namespace Go.Zz
open Go.RowKit Go.Proofs
set_option maxHeartbeats 400000
set_option maxRecDepth 4000

def ex : ByteArray := ⟨#[120]⟩
def fgF (l : List Int) : ByteArray := if isGrp l then (if l.length = 0 then ⟨#[49]⟩ else jn ex (fun i => fmtB (nth l i)) l.length) else ⟨#[]⟩
theorem fgF_no {l : List Int} (h : isGrp l = false) : fgF l = ⟨#[]⟩ := by unfold fgF; rw [h]; rfl
theorem fgF_yes {l : List Int} (h : isGrp l = true) : fgF l = if l.length = 0 then ⟨#[49]⟩ else jn ex (fun i => fmtB (nth l i)) l.length := by unfold fgF; rw [h]; rfl
theorem grp_in {l : List Int} (h : isGrp l = true) (i : Nat) (hi : i < l.length) : -1 ≤ nth l i ∧ nth l i < 1000000000000 := by
  have := isGrp_nth h hi; omega
--%call FormatGroup 76 ext FormatGroup_any _ _ _ ({0})
theorem FormatGroup_any (v : Value) (l : List Int) (w : World) (h : Ints w v l) :
    Calls Try.prog 76 #[.agg #[v]] w fun e w' => e = .returned (.string (fgF l)) ∧ Ext w w' := by
  have hop := h.op
  have hE0 := (Ext.refl w).alloc (.cells #[v] 24)
  have hE := Ext.refl (w.alloc (.cells #[v] 24))
  have hb := box_cell w v 24
  have hg : ∀ W, Ext (w.alloc (.cells #[v] 24)) W → Ints W v l := fun W hW => h.ext (hE0.trans hW)
  clear h
  obtain ⟨ao, c, adr, rfl, hlen, hadr, hcell⟩ := hop
  have hix := ints_index (c := c) elI szI hadr
  clear hadr
  cases hgr : isGrp l
  · have He := Lib.hid (fgF_no hgr)
    go_enter Try.func76, Try.ntmps76
    go_wp2_with (first | (go_at_call 75; refine (IsGroup_any _ _ _ (hg _ hE)).mono ?_; rintro e w' ⟨rfl, hE'⟩; replace hE := hE.trans hE'; clear hE'))
    go_ret
    exact ⟨ret_str He.out.symm, hE0.trans hE⟩
  · have Hf := Lib.hid (fgF_yes hgr)
    have Hr := Lib.hid (grp_in hgr)
    by_cases h0 : l.length = 0
    · have He : Hid (fgF l = ⟨#[49]⟩) := Lib.hid (Hf.out.trans (if_pos h0))
      have h00 : ((l.length : Int) == 0) = true := by rw [beq_iff_eq]; omega
      clear h0 Hf
      go_enter Try.func76, Try.ntmps76
      go_wp2_with (first | (go_at_call 75; refine (IsGroup_any _ _ _ (hg _ hE)).mono ?_; rintro e w' ⟨rfl, hE'⟩; replace hE := hE.trans hE'; clear hE'))
      go_ret
      exact ⟨ret_str He.out.symm, hE0.trans hE⟩
    · have h00 : ((l.length : Int) == 0) = false := by rw [beq_eq_false_iff_ne]; omega
      go_enter Try.func76, Try.ntmps76
      go_wp2_with (go_at_call 75; refine (IsGroup_any _ _ _ (hg _ hE)).mono ?_; rintro e wq ⟨rfl, hE1⟩; have hb2 := hb _ ((hE.trans hE1).alloc (.cells #[] 9)))
      have He : Hid (fgF l = jn ex (nthS (l.map fmtB)) l.length) := Lib.hid ((Hf.out.trans (if_neg h0)).trans (jn_congr _ _ _ _ fun i hi => (nthS_map l i hi).symm))
      have hlen3 : l.length ≤ 3 := isGrp_len hgr
      clear hb2
      have hO0 := ownS_made (Ext.refl wq)
      have hEq0 := (Ext.refl wq).alloc (.cells #[] 9)
      go_loopw [3, 17] (fun v i wr => ∃ k : Nat, k ≤ l.length ∧ i = .int .i64 k ∧ OwnS wq wr v ((l.take k).map fmtB) ∧ Ext wq wr) (fun _ i _ => l.length - (intOf i).toNat)
      case atStart => exact ⟨0, by omega, rfl, hO0, hEq0⟩
      case round =>
        obtain ⟨k, hk, rfl, hO, hEr⟩ := hrel
        by_cases hlt : k < l.length
        · have hck := hcell k _ hlt ((hE0.trans hE1).trans hEr)
          have hcI := FormatInt_any (nth l k) (Hr.out k hlt)
          have hlk : ((l.take k).map fmtB).length < 1000000 := by rw [List.length_map, List.length_take]; omega
          go_wp2_with (first | (go_at_call 56; with_reducible refine (hcI _).mono ?_; rintro e wc ⟨rfl, hEc⟩) | (at_builtin; refine wp_append1S rfl _ _ rfl wq _ _ _ _ (hO.ext hEc) (hEr.trans hEc) hlk rfl rfl ?_; intro v1 w1 hO1 hEd))
          go_roundw
          case rel => exact ⟨k + 1, by omega, by go_num, by rw [take_fmt _ _ hlt]; exact hO1, hEd⟩
          case measure => (simp [intOf]; omega)
        · have hkl : k = l.length := by omega
          subst hkl
          rw [List.take_length] at hO
          have hS := hO.strs
          have hc := glued_any _ (l.map fmtB) ex _ hS (by decide) (fun i hi => by
            rw [List.length_map] at hi
            rw [nthS_map l i hi]; exact fmtB_size (Hr.out i hi))
          go_wp2_with (refine hc.mono ?_; rintro e w1 ⟨rfl, rfl⟩)
          go_ret
          exact ⟨ret_str He.out.symm, (hE0.trans hE1).trans hEr⟩
end Go.Zz
