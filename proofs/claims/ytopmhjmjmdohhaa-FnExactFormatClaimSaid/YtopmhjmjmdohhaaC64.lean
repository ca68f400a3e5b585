/- FormatGroup of the reference. -/
import Derived.Test.YtopmhjmjmdohhaaC63
namespace Go.Zz
open Go.RowKit Go.Proofs
set_option maxHeartbeats 400000
set_option maxRecDepth 4000

theorem sFormatGroup_no (v : Value) (l : List Int) (w : World) (h : Ints w v l) (hgr : isGrp l = false) :
    Calls Try.prog 69 #[.agg #[v]] w fun e w' => e = .returned (.string (fgF l)) ∧ Ext w w' := by
  have hop := h.op
  have hE0 := (Ext.refl w).alloc (.cells #[v] 24)
  have hE := Ext.refl (w.alloc (.cells #[v] 24))
  have hb := box_cell w v 24
  have hg : ∀ W, Ext (w.alloc (.cells #[v] 24)) W → Ints W v l := fun W hW => h.ext (hE0.trans hW)
  clear h
  obtain ⟨ao, c, adr, rfl, hlen, -, -⟩ := hop
  have He := Lib.hid (fgF_no hgr)
  have hcG := fun W (hW : Ext (w.alloc (.cells #[.slice ao l.length c] 24)) W) => sIsGroup_any _ l W (hg W hW)
  rw [hgr] at hcG
  go_enter Try.func69, Try.ntmps69
  go_wp2_with fail
  go_loopw [3, 4] (fun s i wr => i = .int .i64 0 ∧ s = .string ⟨#[]⟩ ∧ Ext (w.alloc (.cells #[.slice ao l.length c] 24)) wr) (fun _ _ _ => 0)
  case atStart => exact ⟨rfl, rfl, Ext.refl _⟩
  case round =>
    obtain ⟨rfl, rfl, hEr⟩ := hrel
    have hbr := hb _ hEr
    by_cases hp : 0 < (l.length : Int)
    · have hpB : decide (0 < (l.length : Int)) = true := by simpa using hp
      go_wp2_with (first | (refine (hcG _ (hEr.trans hE3)).mono ?_; rintro e w4 ⟨rfl, hE4⟩) | (refine (hcG _ hEr).mono ?_; rintro e w3 ⟨rfl, hE3⟩; have hbr3 := hb _ (hEr.trans hE3)))
      go_ret
      exact ⟨ret_str He.out.symm, ((hE0.trans hEr).trans hE3).trans hE4⟩
    · have hpB : decide (0 < (l.length : Int)) = false := by simpa using hp
      go_wp2_with (refine (hcG _ hEr).mono ?_; rintro e w3 ⟨rfl, hE3⟩)
      go_ret
      exact ⟨ret_str He.out.symm, (hE0.trans hEr).trans hE3⟩
theorem sFormatGroup_yes (v : Value) (l : List Int) (w : World) (h : Ints w v l) (hgr : isGrp l = true) :
    Calls Try.prog 69 #[.agg #[v]] w fun e w' => e = .returned (.string (fgF l)) ∧ Ext w w' := by
  have hop := h.op
  have hE0 := (Ext.refl w).alloc (.cells #[v] 24)
  have hE := Ext.refl (w.alloc (.cells #[v] 24))
  have hb := box_cell w v 24
  have hg : ∀ W, Ext (w.alloc (.cells #[v] 24)) W → Ints W v l := fun W hW => h.ext (hE0.trans hW)
  clear h
  obtain ⟨ao, c, adr, rfl, hlen, hadr, hcell⟩ := hop
  have hix := ints_index (c := c) elI szI hadr
  clear hadr
  have Hf := Lib.hid (fgF_yes hgr)
  have Hr := Lib.hid (grp_in hgr)
  have hcG := fun W (hW : Ext (w.alloc (.cells #[.slice ao l.length c] 24)) W) => sIsGroup_any _ l W (hg W hW)
  have hl3 := isGrp_len hgr
  rw [hgr] at hcG
  go_enter Try.func69, Try.ntmps69
  go_wp2_with fail
  go_loopw [3, 4] (fun s i wr => ∃ (k : Nat) (t : ByteArray), k ≤ l.length ∧ i = .int .i64 k ∧ s = .string t ∧ Hid (t = jn ex (fun i => fmtB (nth l i)) k) ∧ Ext (w.alloc (.cells #[.slice ao l.length c] 24)) wr) (fun _ i _ => l.length - (intOf i).toNat)
  case atStart => exact ⟨0, _, by omega, rfl, rfl, Lib.hid rfl, Ext.refl _⟩
  case round =>
    obtain ⟨k, t, hk, rfl, rfl, Ht, hEr⟩ := hrel
    have hbr := hb _ hEr
    have hts : t.size ≤ 14 * k := by rw [Ht.out]; exact jn_size _ _ (by decide) k fun i hi => fmtB_size (Hr.out i (by omega))
    by_cases hlt : k < l.length
    · have hcF := sFormatInt_any (nth l k) (Hr.out k hlt)
      have hsz : (fmtB (nth l k)).size ≤ 13 := fmtB_size (Hr.out k hlt)
      obtain ⟨u, hu⟩ : ∃ u, u = fmtB (nth l k) := ⟨_, rfl⟩
      rw [← hu] at hsz hcF
      have He := Lib.hid hu
      clear hu
      by_cases hk0 : 0 < k
      · have hk1 : (0:Int) < k := by omega
        go_wp2_with (first | (go_at_call 49; refine (hcF _).mono ?_; rintro e w4 ⟨rfl, hE4⟩) | (refine (hcG _ hEr).mono ?_; rintro e w3 ⟨rfl, hE3⟩; have hbr3 := hb _ (hEr.trans hE3); have hck3 := hcell k _ hlt ((hE0.trans hEr).trans hE3)))
        go_roundw
        case rel => exact ⟨k + 1, _, by omega, by go_num, rfl, Lib.hid (by rw [jn_next _ _ hk0, ← Ht.out, He.out]; rfl), (hEr.trans hE3).trans hE4⟩
        case measure => (simp [intOf]; omega)
      · have hk1 : k = 0 := by omega
        subst hk1
        have hix0 : ∀ W, (Instr.indexAt 22 (.slice ao l.length c) (.int .i64 0)).run Try.prog W = .ok (.pointer (some (adr 0))) W := fun W => by simpa using hix 0 W hlt
        go_wp2_with (first | (go_at_call 49; refine (hcF _).mono ?_; rintro e w4 ⟨rfl, hE4⟩) | (refine (hcG _ hEr).mono ?_; rintro e w3 ⟨rfl, hE3⟩; have hbr3 := hb _ (hEr.trans hE3); have hck3 := hcell 0 _ hlt ((hE0.trans hEr).trans hE3)))
        go_roundw
        case rel => exact ⟨1, _, by omega, rfl, rfl, Lib.hid (by rw [jn_first, He.out, Ht.out]; rfl), (hEr.trans hE3).trans hE4⟩
        case measure => (simp [intOf]; omega)
    · have hkl : k = l.length := by omega
      subst hkl
      have hER := hE0.trans hEr
      have hcS := hcG _ hEr
      by_cases h0 : l.length = 0
      · have ht0 : t = ⟨#[]⟩ := by rw [Ht.out, h0]; rfl
        subst ht0
        have Hf2 : Hid (fgF l = ⟨#[49]⟩) := Lib.hid (by rw [Hf.out, if_pos h0])
        clear h0 hts Hf
        go_wp2_with (refine hcS.mono ?_; rintro e w3 ⟨rfl, hE3⟩)
        go_ret
        exact ⟨ret_str Hf2.out.symm, hER.trans hE3⟩
      · have He : Hid (fgF l = t) := Lib.hid (by rw [Hf.out, if_neg h0, Ht.out])
        have h1 := jn_some ex (fun i => fmtB (nth l i)) l.length (by omega) fun i hi => fmtB_some (Hr.out i hi)
        rw [← Ht.out] at h1
        have ht1 := str_some h1
        go_wp2_with fail
        go_ret
        exact ⟨ret_str He.out.symm, hER⟩
theorem sFormatGroup_any (v : Value) (l : List Int) (w : World) (h : Ints w v l) :
    Calls Try.prog 69 #[.agg #[v]] w fun e w' => e = .returned (.string (fgF l)) ∧ Ext w w' := by
  cases hg : isGrp l
  · exact sFormatGroup_no v l w h hg
  · exact sFormatGroup_yes v l w h hg
end Go.Zz
