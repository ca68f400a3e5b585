/- Numbers of one digit below 0 as text (printed by gen/nine.py). -/
import Derived.Test.YtdlbbpeahicakaaGreatGr20
import Derived.Test.YtdlbbpeahicakaaGreatGr21
namespace Go.Zz
open Go.RowKit Go.Proofs
set_option maxHeartbeats 2000000
set_option maxRecDepth 8000

theorem fmtB_m2 : fmtB (-2) = ⟨#[45]⟩ ++ (strOfNums [50] ++ ⟨#[]⟩) := by
  unfold fmtB
  rw [if_neg (by omega), if_pos (by omega)]
  show _ ++ digs 2 _ = _
  rw [digs_pos _ (by omega), digs_zero]
  rfl
theorem sFormatInt_m2 (w : World) :
    Calls Tryz.prog 52 #[.int .i64 (-2)] w fun e w' => e = .returned (.string (fmtB (-2))) ∧ Ext w w' := by
  have Hf := Lib.hid fmtB_m2
  go_enter Tryz.func52, Tryz.ntmps52
  go_wp2_with fail
  go_loopw [0, 3] (fun d s wr => Ext w wr ∧ ((d = .int .i64 (-2) ∧ s = .string ⟨#[]⟩) ∨ (d = .int .i64 0 ∧ s = .string (strOfNums [50] ++ ⟨#[]⟩)))) (fun d _ _ => (intOf d).natAbs)
  case atStart => exact ⟨Ext.refl _, Or.inl ⟨rfl, rfl⟩⟩
  case round =>
    obtain ⟨hE, ⟨rfl, rfl⟩ | ⟨rfl, rfl⟩⟩ := hrel
    · have hcv := bytes_lit wr 50
      have hs1 : (strOfNums [(50 : Int)]).size = 1 := strOfNums_size _
      go_wp2_with fail
      go_roundw
      case rel => exact ⟨hE.alloc _, Or.inr ⟨rfl, rfl⟩⟩
      case measure => (simp [intOf])
    · have hs1 : (strOfNums [(50 : Int)] ++ ⟨#[]⟩).size = 1 := by rw [ByteArray.size_append, strOfNums_size]; rfl
      obtain ⟨t, ht⟩ : ∃ t, t = (strOfNums [(50 : Int)] ++ ⟨#[]⟩) := ⟨_, rfl⟩
      rw [← ht] at hs1 Hf ⊢
      go_wp2_with fail
      go_ret
      exact ⟨ret_str (by rw [Hf.out, ht]), hE⟩
theorem FormatInt_m2 (w : World) :
    Calls Tryz.prog 66 #[.int .i64 (-2)] w fun e w' => e = .returned (.string (fmtB (-2))) ∧ Ext w w' := by
  have hO0 := ownB_made (Ext.refl w)
  have hE0 := (Ext.refl w).alloc (.cells #[] 5)
  have Hf := Lib.hid fmtB_m2
  go_enter Tryz.func66, Tryz.ntmps66
  go_wp2_with fail
  go_loopw [3, 4] (fun v d wr => Ext w wr ∧ ((d = .int .i64 (-2) ∧ OwnB w wr v []) ∨ (d = .int .i64 0 ∧ OwnB w wr v [50]))) (fun _ d _ => (intOf d).natAbs)
  case atStart => exact ⟨hE0, Or.inl ⟨rfl, hO0⟩⟩
  case round =>
    obtain ⟨hE, ⟨rfl, hO⟩ | ⟨rfl, hO⟩⟩ := hrel
    · go_wp2_with (at_builtin; refine wp_append1B rfl _ _ rfl w _ _ _ _ hO hE (by simp) rfl rfl ?_; intro v1 w1 hO1 hE1)
      go_roundw
      case rel => exact ⟨hE1, Or.inr ⟨rfl, hO1⟩⟩
      case measure => (simp [intOf])
    · go_wp2_with (at_builtin; go_loud (refine wp_append1B rfl _ _ rfl w _ _ _ _ hO hE (by simp) rfl rfl ?_; intro v1 w1 hO1 hE1; obtain ⟨l, hl⟩ : ∃ l : List Int, l = [50] ++ [45] := ⟨_, rfl⟩; rw [← hl] at hO1; have hl0 : 0 < l.length := (by rw [hl]; simp); obtain ⟨g, c, hv, hlc, hg0, hg1, -⟩ := hO1.shape hl0; obtain ⟨L, hL⟩ : ∃ L, L = l.length := ⟨_, rfl⟩; have hL2 : L ≤ 2 := (by rw [hL, hl]; simp); rw [← hL] at hl0 hlc hv; subst hv; have HL := Lib.hid hL; have Hl := Lib.hid hl; have HO := Lib.hid hO1; clear hL hl hO1 hO))
      have hixB : ∀ (i : Nat) W, i < L → (Instr.indexAt 33 (.slice (some ⟨g, 0, none⟩) L c) (.int .i64 (i : Int))).run Tryz.prog W = .ok (.pointer (some ⟨g, i, none⟩)) W := by
        intro i W hi
        rw [run_indexAt_slice (h := elB), if_pos (by omega), szBt]
        simp [Result.andThen, Addr.add_lit]
      go_wp2_with fail
      go_loopw [6, 7] (fun i j wr => ∃ (k jn : Nat), k ≤ jn + 1 ∧ jn + k + 1 = L ∧ i = .int .i64 k ∧ j = .int .i64 jn ∧ Ext w wr ∧ OwnB w wr (.slice (some ⟨g, 0, none⟩) L c) (revk l k)) (fun _ j _ => (intOf j).toNat)
      case atStart => exact ⟨0, L - 1, by omega, by omega, rfl, by go_num, hE1, by rw [revk_zero]; exact HO.out⟩
      case round =>
        obtain ⟨k, jn, hk, hkj, rfl, rfl, hE2, hO2⟩ := hrel
        have Hkj := Lib.hid hkj
        by_cases hlt : k < jn
        · have hkL : k < L := by omega
          have hjL : jn < L := by omega
          clear hkj
          have hl2 : (revk l k).length = L := by rw [revk_len, ← HL.out]
          obtain ⟨hck, hfk⟩ := hO2.cellAt hl2 k hkL
          obtain ⟨hcj, hfj⟩ := hO2.cellAt hl2 jn hjL
          have Hl2 := Lib.hid hl2
          have HO2 := Lib.hid hO2
          clear hl2 hO2
          have hne : ¬ k = jn := by omega
          have hne2 : ¬ jn = k := by omega
          go_wp2_with fail
          go_big_region
          go_wp2_with fail
          go_roundw
          case rel =>
            have hkj' := Hkj.out
            have hj2 : (revk l k).length - 1 - k = jn := by rw [Hl2.out]; omega
            obtain ⟨hO3, hG3⟩ := HO2.out.stored_grown Hl2.out k (nth (revk l k) jn)
            obtain ⟨hO4, hG4⟩ := hO3.stored_grown (by rw [List.length_set]; exact Hl2.out) jn (nth (revk l k) k)
            have hst := revk_step l k (by rw [← HL.out]; omega)
            rw [← HL.out, show L - 1 - k = jn by omega] at hst
            rw [hst] at hO4
            exact ⟨k + 1, jn - 1, by omega, by omega, by go_num, by go_num, ((hE2.grown hG3 (fun q hq => by cases hq; exact hg0)).grown hG4 (fun q hq => by cases hq; exact hg0)).drew, hO4⟩
          case measure => (simp [intOf]; omega)
        · clear hkj
          have hcv := hO2.str (by rw [revk_len, ← HL.out])
          have He : Hid (strOfNums (revk l k) = fmtB (-2)) := Lib.hid (by
            have hk' := Hkj.out
            have hL' := HL.out
            rw [revk_end l k (by omega), Hl.out, Hf.out]; rfl)
          go_wp2_with fail
          go_ret
          exact ⟨ret_str He.out, hE2⟩
theorem fmtB_m3 : fmtB (-3) = ⟨#[45]⟩ ++ (strOfNums [51] ++ ⟨#[]⟩) := by
  unfold fmtB
  rw [if_neg (by omega), if_pos (by omega)]
  show _ ++ digs 3 _ = _
  rw [digs_pos _ (by omega), digs_zero]
  rfl
theorem sFormatInt_m3 (w : World) :
    Calls Tryz.prog 52 #[.int .i64 (-3)] w fun e w' => e = .returned (.string (fmtB (-3))) ∧ Ext w w' := by
  have Hf := Lib.hid fmtB_m3
  go_enter Tryz.func52, Tryz.ntmps52
  go_wp2_with fail
  go_loopw [0, 3] (fun d s wr => Ext w wr ∧ ((d = .int .i64 (-3) ∧ s = .string ⟨#[]⟩) ∨ (d = .int .i64 0 ∧ s = .string (strOfNums [51] ++ ⟨#[]⟩)))) (fun d _ _ => (intOf d).natAbs)
  case atStart => exact ⟨Ext.refl _, Or.inl ⟨rfl, rfl⟩⟩
  case round =>
    obtain ⟨hE, ⟨rfl, rfl⟩ | ⟨rfl, rfl⟩⟩ := hrel
    · have hcv := bytes_lit wr 51
      have hs1 : (strOfNums [(51 : Int)]).size = 1 := strOfNums_size _
      go_wp2_with fail
      go_roundw
      case rel => exact ⟨hE.alloc _, Or.inr ⟨rfl, rfl⟩⟩
      case measure => (simp [intOf])
    · have hs1 : (strOfNums [(51 : Int)] ++ ⟨#[]⟩).size = 1 := by rw [ByteArray.size_append, strOfNums_size]; rfl
      obtain ⟨t, ht⟩ : ∃ t, t = (strOfNums [(51 : Int)] ++ ⟨#[]⟩) := ⟨_, rfl⟩
      rw [← ht] at hs1 Hf ⊢
      go_wp2_with fail
      go_ret
      exact ⟨ret_str (by rw [Hf.out, ht]), hE⟩
theorem FormatInt_m3 (w : World) :
    Calls Tryz.prog 66 #[.int .i64 (-3)] w fun e w' => e = .returned (.string (fmtB (-3))) ∧ Ext w w' := by
  have hO0 := ownB_made (Ext.refl w)
  have hE0 := (Ext.refl w).alloc (.cells #[] 5)
  have Hf := Lib.hid fmtB_m3
  go_enter Tryz.func66, Tryz.ntmps66
  go_wp2_with fail
  go_loopw [3, 4] (fun v d wr => Ext w wr ∧ ((d = .int .i64 (-3) ∧ OwnB w wr v []) ∨ (d = .int .i64 0 ∧ OwnB w wr v [51]))) (fun _ d _ => (intOf d).natAbs)
  case atStart => exact ⟨hE0, Or.inl ⟨rfl, hO0⟩⟩
  case round =>
    obtain ⟨hE, ⟨rfl, hO⟩ | ⟨rfl, hO⟩⟩ := hrel
    · go_wp2_with (at_builtin; refine wp_append1B rfl _ _ rfl w _ _ _ _ hO hE (by simp) rfl rfl ?_; intro v1 w1 hO1 hE1)
      go_roundw
      case rel => exact ⟨hE1, Or.inr ⟨rfl, hO1⟩⟩
      case measure => (simp [intOf])
    · go_wp2_with (at_builtin; go_loud (refine wp_append1B rfl _ _ rfl w _ _ _ _ hO hE (by simp) rfl rfl ?_; intro v1 w1 hO1 hE1; obtain ⟨l, hl⟩ : ∃ l : List Int, l = [51] ++ [45] := ⟨_, rfl⟩; rw [← hl] at hO1; have hl0 : 0 < l.length := (by rw [hl]; simp); obtain ⟨g, c, hv, hlc, hg0, hg1, -⟩ := hO1.shape hl0; obtain ⟨L, hL⟩ : ∃ L, L = l.length := ⟨_, rfl⟩; have hL2 : L ≤ 2 := (by rw [hL, hl]; simp); rw [← hL] at hl0 hlc hv; subst hv; have HL := Lib.hid hL; have Hl := Lib.hid hl; have HO := Lib.hid hO1; clear hL hl hO1 hO))
      have hixB : ∀ (i : Nat) W, i < L → (Instr.indexAt 33 (.slice (some ⟨g, 0, none⟩) L c) (.int .i64 (i : Int))).run Tryz.prog W = .ok (.pointer (some ⟨g, i, none⟩)) W := by
        intro i W hi
        rw [run_indexAt_slice (h := elB), if_pos (by omega), szBt]
        simp [Result.andThen, Addr.add_lit]
      go_wp2_with fail
      go_loopw [6, 7] (fun i j wr => ∃ (k jn : Nat), k ≤ jn + 1 ∧ jn + k + 1 = L ∧ i = .int .i64 k ∧ j = .int .i64 jn ∧ Ext w wr ∧ OwnB w wr (.slice (some ⟨g, 0, none⟩) L c) (revk l k)) (fun _ j _ => (intOf j).toNat)
      case atStart => exact ⟨0, L - 1, by omega, by omega, rfl, by go_num, hE1, by rw [revk_zero]; exact HO.out⟩
      case round =>
        obtain ⟨k, jn, hk, hkj, rfl, rfl, hE2, hO2⟩ := hrel
        have Hkj := Lib.hid hkj
        by_cases hlt : k < jn
        · have hkL : k < L := by omega
          have hjL : jn < L := by omega
          clear hkj
          have hl2 : (revk l k).length = L := by rw [revk_len, ← HL.out]
          obtain ⟨hck, hfk⟩ := hO2.cellAt hl2 k hkL
          obtain ⟨hcj, hfj⟩ := hO2.cellAt hl2 jn hjL
          have Hl2 := Lib.hid hl2
          have HO2 := Lib.hid hO2
          clear hl2 hO2
          have hne : ¬ k = jn := by omega
          have hne2 : ¬ jn = k := by omega
          go_wp2_with fail
          go_big_region
          go_wp2_with fail
          go_roundw
          case rel =>
            have hkj' := Hkj.out
            have hj2 : (revk l k).length - 1 - k = jn := by rw [Hl2.out]; omega
            obtain ⟨hO3, hG3⟩ := HO2.out.stored_grown Hl2.out k (nth (revk l k) jn)
            obtain ⟨hO4, hG4⟩ := hO3.stored_grown (by rw [List.length_set]; exact Hl2.out) jn (nth (revk l k) k)
            have hst := revk_step l k (by rw [← HL.out]; omega)
            rw [← HL.out, show L - 1 - k = jn by omega] at hst
            rw [hst] at hO4
            exact ⟨k + 1, jn - 1, by omega, by omega, by go_num, by go_num, ((hE2.grown hG3 (fun q hq => by cases hq; exact hg0)).grown hG4 (fun q hq => by cases hq; exact hg0)).drew, hO4⟩
          case measure => (simp [intOf]; omega)
        · clear hkj
          have hcv := hO2.str (by rw [revk_len, ← HL.out])
          have He : Hid (strOfNums (revk l k) = fmtB (-3)) := Lib.hid (by
            have hk' := Hkj.out
            have hL' := HL.out
            rw [revk_end l k (by omega), Hl.out, Hf.out]; rfl)
          go_wp2_with fail
          go_ret
          exact ⟨ret_str He.out, hE2⟩
theorem fmtB_m4 : fmtB (-4) = ⟨#[45]⟩ ++ (strOfNums [52] ++ ⟨#[]⟩) := by
  unfold fmtB
  rw [if_neg (by omega), if_pos (by omega)]
  show _ ++ digs 4 _ = _
  rw [digs_pos _ (by omega), digs_zero]
  rfl
theorem sFormatInt_m4 (w : World) :
    Calls Tryz.prog 52 #[.int .i64 (-4)] w fun e w' => e = .returned (.string (fmtB (-4))) ∧ Ext w w' := by
  have Hf := Lib.hid fmtB_m4
  go_enter Tryz.func52, Tryz.ntmps52
  go_wp2_with fail
  go_loopw [0, 3] (fun d s wr => Ext w wr ∧ ((d = .int .i64 (-4) ∧ s = .string ⟨#[]⟩) ∨ (d = .int .i64 0 ∧ s = .string (strOfNums [52] ++ ⟨#[]⟩)))) (fun d _ _ => (intOf d).natAbs)
  case atStart => exact ⟨Ext.refl _, Or.inl ⟨rfl, rfl⟩⟩
  case round =>
    obtain ⟨hE, ⟨rfl, rfl⟩ | ⟨rfl, rfl⟩⟩ := hrel
    · have hcv := bytes_lit wr 52
      have hs1 : (strOfNums [(52 : Int)]).size = 1 := strOfNums_size _
      go_wp2_with fail
      go_roundw
      case rel => exact ⟨hE.alloc _, Or.inr ⟨rfl, rfl⟩⟩
      case measure => (simp [intOf])
    · have hs1 : (strOfNums [(52 : Int)] ++ ⟨#[]⟩).size = 1 := by rw [ByteArray.size_append, strOfNums_size]; rfl
      obtain ⟨t, ht⟩ : ∃ t, t = (strOfNums [(52 : Int)] ++ ⟨#[]⟩) := ⟨_, rfl⟩
      rw [← ht] at hs1 Hf ⊢
      go_wp2_with fail
      go_ret
      exact ⟨ret_str (by rw [Hf.out, ht]), hE⟩
theorem FormatInt_m4 (w : World) :
    Calls Tryz.prog 66 #[.int .i64 (-4)] w fun e w' => e = .returned (.string (fmtB (-4))) ∧ Ext w w' := by
  have hO0 := ownB_made (Ext.refl w)
  have hE0 := (Ext.refl w).alloc (.cells #[] 5)
  have Hf := Lib.hid fmtB_m4
  go_enter Tryz.func66, Tryz.ntmps66
  go_wp2_with fail
  go_loopw [3, 4] (fun v d wr => Ext w wr ∧ ((d = .int .i64 (-4) ∧ OwnB w wr v []) ∨ (d = .int .i64 0 ∧ OwnB w wr v [52]))) (fun _ d _ => (intOf d).natAbs)
  case atStart => exact ⟨hE0, Or.inl ⟨rfl, hO0⟩⟩
  case round =>
    obtain ⟨hE, ⟨rfl, hO⟩ | ⟨rfl, hO⟩⟩ := hrel
    · go_wp2_with (at_builtin; refine wp_append1B rfl _ _ rfl w _ _ _ _ hO hE (by simp) rfl rfl ?_; intro v1 w1 hO1 hE1)
      go_roundw
      case rel => exact ⟨hE1, Or.inr ⟨rfl, hO1⟩⟩
      case measure => (simp [intOf])
    · go_wp2_with (at_builtin; go_loud (refine wp_append1B rfl _ _ rfl w _ _ _ _ hO hE (by simp) rfl rfl ?_; intro v1 w1 hO1 hE1; obtain ⟨l, hl⟩ : ∃ l : List Int, l = [52] ++ [45] := ⟨_, rfl⟩; rw [← hl] at hO1; have hl0 : 0 < l.length := (by rw [hl]; simp); obtain ⟨g, c, hv, hlc, hg0, hg1, -⟩ := hO1.shape hl0; obtain ⟨L, hL⟩ : ∃ L, L = l.length := ⟨_, rfl⟩; have hL2 : L ≤ 2 := (by rw [hL, hl]; simp); rw [← hL] at hl0 hlc hv; subst hv; have HL := Lib.hid hL; have Hl := Lib.hid hl; have HO := Lib.hid hO1; clear hL hl hO1 hO))
      have hixB : ∀ (i : Nat) W, i < L → (Instr.indexAt 33 (.slice (some ⟨g, 0, none⟩) L c) (.int .i64 (i : Int))).run Tryz.prog W = .ok (.pointer (some ⟨g, i, none⟩)) W := by
        intro i W hi
        rw [run_indexAt_slice (h := elB), if_pos (by omega), szBt]
        simp [Result.andThen, Addr.add_lit]
      go_wp2_with fail
      go_loopw [6, 7] (fun i j wr => ∃ (k jn : Nat), k ≤ jn + 1 ∧ jn + k + 1 = L ∧ i = .int .i64 k ∧ j = .int .i64 jn ∧ Ext w wr ∧ OwnB w wr (.slice (some ⟨g, 0, none⟩) L c) (revk l k)) (fun _ j _ => (intOf j).toNat)
      case atStart => exact ⟨0, L - 1, by omega, by omega, rfl, by go_num, hE1, by rw [revk_zero]; exact HO.out⟩
      case round =>
        obtain ⟨k, jn, hk, hkj, rfl, rfl, hE2, hO2⟩ := hrel
        have Hkj := Lib.hid hkj
        by_cases hlt : k < jn
        · have hkL : k < L := by omega
          have hjL : jn < L := by omega
          clear hkj
          have hl2 : (revk l k).length = L := by rw [revk_len, ← HL.out]
          obtain ⟨hck, hfk⟩ := hO2.cellAt hl2 k hkL
          obtain ⟨hcj, hfj⟩ := hO2.cellAt hl2 jn hjL
          have Hl2 := Lib.hid hl2
          have HO2 := Lib.hid hO2
          clear hl2 hO2
          have hne : ¬ k = jn := by omega
          have hne2 : ¬ jn = k := by omega
          go_wp2_with fail
          go_big_region
          go_wp2_with fail
          go_roundw
          case rel =>
            have hkj' := Hkj.out
            have hj2 : (revk l k).length - 1 - k = jn := by rw [Hl2.out]; omega
            obtain ⟨hO3, hG3⟩ := HO2.out.stored_grown Hl2.out k (nth (revk l k) jn)
            obtain ⟨hO4, hG4⟩ := hO3.stored_grown (by rw [List.length_set]; exact Hl2.out) jn (nth (revk l k) k)
            have hst := revk_step l k (by rw [← HL.out]; omega)
            rw [← HL.out, show L - 1 - k = jn by omega] at hst
            rw [hst] at hO4
            exact ⟨k + 1, jn - 1, by omega, by omega, by go_num, by go_num, ((hE2.grown hG3 (fun q hq => by cases hq; exact hg0)).grown hG4 (fun q hq => by cases hq; exact hg0)).drew, hO4⟩
          case measure => (simp [intOf]; omega)
        · clear hkj
          have hcv := hO2.str (by rw [revk_len, ← HL.out])
          have He : Hid (strOfNums (revk l k) = fmtB (-4)) := Lib.hid (by
            have hk' := Hkj.out
            have hL' := HL.out
            rw [revk_end l k (by omega), Hl.out, Hf.out]; rfl)
          go_wp2_with fail
          go_ret
          exact ⟨ret_str He.out, hE2⟩
theorem fmtB_m5 : fmtB (-5) = ⟨#[45]⟩ ++ (strOfNums [53] ++ ⟨#[]⟩) := by
  unfold fmtB
  rw [if_neg (by omega), if_pos (by omega)]
  show _ ++ digs 5 _ = _
  rw [digs_pos _ (by omega), digs_zero]
  rfl
theorem sFormatInt_m5 (w : World) :
    Calls Tryz.prog 52 #[.int .i64 (-5)] w fun e w' => e = .returned (.string (fmtB (-5))) ∧ Ext w w' := by
  have Hf := Lib.hid fmtB_m5
  go_enter Tryz.func52, Tryz.ntmps52
  go_wp2_with fail
  go_loopw [0, 3] (fun d s wr => Ext w wr ∧ ((d = .int .i64 (-5) ∧ s = .string ⟨#[]⟩) ∨ (d = .int .i64 0 ∧ s = .string (strOfNums [53] ++ ⟨#[]⟩)))) (fun d _ _ => (intOf d).natAbs)
  case atStart => exact ⟨Ext.refl _, Or.inl ⟨rfl, rfl⟩⟩
  case round =>
    obtain ⟨hE, ⟨rfl, rfl⟩ | ⟨rfl, rfl⟩⟩ := hrel
    · have hcv := bytes_lit wr 53
      have hs1 : (strOfNums [(53 : Int)]).size = 1 := strOfNums_size _
      go_wp2_with fail
      go_roundw
      case rel => exact ⟨hE.alloc _, Or.inr ⟨rfl, rfl⟩⟩
      case measure => (simp [intOf])
    · have hs1 : (strOfNums [(53 : Int)] ++ ⟨#[]⟩).size = 1 := by rw [ByteArray.size_append, strOfNums_size]; rfl
      obtain ⟨t, ht⟩ : ∃ t, t = (strOfNums [(53 : Int)] ++ ⟨#[]⟩) := ⟨_, rfl⟩
      rw [← ht] at hs1 Hf ⊢
      go_wp2_with fail
      go_ret
      exact ⟨ret_str (by rw [Hf.out, ht]), hE⟩
theorem FormatInt_m5 (w : World) :
    Calls Tryz.prog 66 #[.int .i64 (-5)] w fun e w' => e = .returned (.string (fmtB (-5))) ∧ Ext w w' := by
  have hO0 := ownB_made (Ext.refl w)
  have hE0 := (Ext.refl w).alloc (.cells #[] 5)
  have Hf := Lib.hid fmtB_m5
  go_enter Tryz.func66, Tryz.ntmps66
  go_wp2_with fail
  go_loopw [3, 4] (fun v d wr => Ext w wr ∧ ((d = .int .i64 (-5) ∧ OwnB w wr v []) ∨ (d = .int .i64 0 ∧ OwnB w wr v [53]))) (fun _ d _ => (intOf d).natAbs)
  case atStart => exact ⟨hE0, Or.inl ⟨rfl, hO0⟩⟩
  case round =>
    obtain ⟨hE, ⟨rfl, hO⟩ | ⟨rfl, hO⟩⟩ := hrel
    · go_wp2_with (at_builtin; refine wp_append1B rfl _ _ rfl w _ _ _ _ hO hE (by simp) rfl rfl ?_; intro v1 w1 hO1 hE1)
      go_roundw
      case rel => exact ⟨hE1, Or.inr ⟨rfl, hO1⟩⟩
      case measure => (simp [intOf])
    · go_wp2_with (at_builtin; go_loud (refine wp_append1B rfl _ _ rfl w _ _ _ _ hO hE (by simp) rfl rfl ?_; intro v1 w1 hO1 hE1; obtain ⟨l, hl⟩ : ∃ l : List Int, l = [53] ++ [45] := ⟨_, rfl⟩; rw [← hl] at hO1; have hl0 : 0 < l.length := (by rw [hl]; simp); obtain ⟨g, c, hv, hlc, hg0, hg1, -⟩ := hO1.shape hl0; obtain ⟨L, hL⟩ : ∃ L, L = l.length := ⟨_, rfl⟩; have hL2 : L ≤ 2 := (by rw [hL, hl]; simp); rw [← hL] at hl0 hlc hv; subst hv; have HL := Lib.hid hL; have Hl := Lib.hid hl; have HO := Lib.hid hO1; clear hL hl hO1 hO))
      have hixB : ∀ (i : Nat) W, i < L → (Instr.indexAt 33 (.slice (some ⟨g, 0, none⟩) L c) (.int .i64 (i : Int))).run Tryz.prog W = .ok (.pointer (some ⟨g, i, none⟩)) W := by
        intro i W hi
        rw [run_indexAt_slice (h := elB), if_pos (by omega), szBt]
        simp [Result.andThen, Addr.add_lit]
      go_wp2_with fail
      go_loopw [6, 7] (fun i j wr => ∃ (k jn : Nat), k ≤ jn + 1 ∧ jn + k + 1 = L ∧ i = .int .i64 k ∧ j = .int .i64 jn ∧ Ext w wr ∧ OwnB w wr (.slice (some ⟨g, 0, none⟩) L c) (revk l k)) (fun _ j _ => (intOf j).toNat)
      case atStart => exact ⟨0, L - 1, by omega, by omega, rfl, by go_num, hE1, by rw [revk_zero]; exact HO.out⟩
      case round =>
        obtain ⟨k, jn, hk, hkj, rfl, rfl, hE2, hO2⟩ := hrel
        have Hkj := Lib.hid hkj
        by_cases hlt : k < jn
        · have hkL : k < L := by omega
          have hjL : jn < L := by omega
          clear hkj
          have hl2 : (revk l k).length = L := by rw [revk_len, ← HL.out]
          obtain ⟨hck, hfk⟩ := hO2.cellAt hl2 k hkL
          obtain ⟨hcj, hfj⟩ := hO2.cellAt hl2 jn hjL
          have Hl2 := Lib.hid hl2
          have HO2 := Lib.hid hO2
          clear hl2 hO2
          have hne : ¬ k = jn := by omega
          have hne2 : ¬ jn = k := by omega
          go_wp2_with fail
          go_big_region
          go_wp2_with fail
          go_roundw
          case rel =>
            have hkj' := Hkj.out
            have hj2 : (revk l k).length - 1 - k = jn := by rw [Hl2.out]; omega
            obtain ⟨hO3, hG3⟩ := HO2.out.stored_grown Hl2.out k (nth (revk l k) jn)
            obtain ⟨hO4, hG4⟩ := hO3.stored_grown (by rw [List.length_set]; exact Hl2.out) jn (nth (revk l k) k)
            have hst := revk_step l k (by rw [← HL.out]; omega)
            rw [← HL.out, show L - 1 - k = jn by omega] at hst
            rw [hst] at hO4
            exact ⟨k + 1, jn - 1, by omega, by omega, by go_num, by go_num, ((hE2.grown hG3 (fun q hq => by cases hq; exact hg0)).grown hG4 (fun q hq => by cases hq; exact hg0)).drew, hO4⟩
          case measure => (simp [intOf]; omega)
        · clear hkj
          have hcv := hO2.str (by rw [revk_len, ← HL.out])
          have He : Hid (strOfNums (revk l k) = fmtB (-5)) := Lib.hid (by
            have hk' := Hkj.out
            have hL' := HL.out
            rw [revk_end l k (by omega), Hl.out, Hf.out]; rfl)
          go_wp2_with fail
          go_ret
          exact ⟨ret_str He.out, hE2⟩
theorem fmtB_m6 : fmtB (-6) = ⟨#[45]⟩ ++ (strOfNums [54] ++ ⟨#[]⟩) := by
  unfold fmtB
  rw [if_neg (by omega), if_pos (by omega)]
  show _ ++ digs 6 _ = _
  rw [digs_pos _ (by omega), digs_zero]
  rfl
theorem sFormatInt_m6 (w : World) :
    Calls Tryz.prog 52 #[.int .i64 (-6)] w fun e w' => e = .returned (.string (fmtB (-6))) ∧ Ext w w' := by
  have Hf := Lib.hid fmtB_m6
  go_enter Tryz.func52, Tryz.ntmps52
  go_wp2_with fail
  go_loopw [0, 3] (fun d s wr => Ext w wr ∧ ((d = .int .i64 (-6) ∧ s = .string ⟨#[]⟩) ∨ (d = .int .i64 0 ∧ s = .string (strOfNums [54] ++ ⟨#[]⟩)))) (fun d _ _ => (intOf d).natAbs)
  case atStart => exact ⟨Ext.refl _, Or.inl ⟨rfl, rfl⟩⟩
  case round =>
    obtain ⟨hE, ⟨rfl, rfl⟩ | ⟨rfl, rfl⟩⟩ := hrel
    · have hcv := bytes_lit wr 54
      have hs1 : (strOfNums [(54 : Int)]).size = 1 := strOfNums_size _
      go_wp2_with fail
      go_roundw
      case rel => exact ⟨hE.alloc _, Or.inr ⟨rfl, rfl⟩⟩
      case measure => (simp [intOf])
    · have hs1 : (strOfNums [(54 : Int)] ++ ⟨#[]⟩).size = 1 := by rw [ByteArray.size_append, strOfNums_size]; rfl
      obtain ⟨t, ht⟩ : ∃ t, t = (strOfNums [(54 : Int)] ++ ⟨#[]⟩) := ⟨_, rfl⟩
      rw [← ht] at hs1 Hf ⊢
      go_wp2_with fail
      go_ret
      exact ⟨ret_str (by rw [Hf.out, ht]), hE⟩
theorem FormatInt_m6 (w : World) :
    Calls Tryz.prog 66 #[.int .i64 (-6)] w fun e w' => e = .returned (.string (fmtB (-6))) ∧ Ext w w' := by
  have hO0 := ownB_made (Ext.refl w)
  have hE0 := (Ext.refl w).alloc (.cells #[] 5)
  have Hf := Lib.hid fmtB_m6
  go_enter Tryz.func66, Tryz.ntmps66
  go_wp2_with fail
  go_loopw [3, 4] (fun v d wr => Ext w wr ∧ ((d = .int .i64 (-6) ∧ OwnB w wr v []) ∨ (d = .int .i64 0 ∧ OwnB w wr v [54]))) (fun _ d _ => (intOf d).natAbs)
  case atStart => exact ⟨hE0, Or.inl ⟨rfl, hO0⟩⟩
  case round =>
    obtain ⟨hE, ⟨rfl, hO⟩ | ⟨rfl, hO⟩⟩ := hrel
    · go_wp2_with (at_builtin; refine wp_append1B rfl _ _ rfl w _ _ _ _ hO hE (by simp) rfl rfl ?_; intro v1 w1 hO1 hE1)
      go_roundw
      case rel => exact ⟨hE1, Or.inr ⟨rfl, hO1⟩⟩
      case measure => (simp [intOf])
    · go_wp2_with (at_builtin; go_loud (refine wp_append1B rfl _ _ rfl w _ _ _ _ hO hE (by simp) rfl rfl ?_; intro v1 w1 hO1 hE1; obtain ⟨l, hl⟩ : ∃ l : List Int, l = [54] ++ [45] := ⟨_, rfl⟩; rw [← hl] at hO1; have hl0 : 0 < l.length := (by rw [hl]; simp); obtain ⟨g, c, hv, hlc, hg0, hg1, -⟩ := hO1.shape hl0; obtain ⟨L, hL⟩ : ∃ L, L = l.length := ⟨_, rfl⟩; have hL2 : L ≤ 2 := (by rw [hL, hl]; simp); rw [← hL] at hl0 hlc hv; subst hv; have HL := Lib.hid hL; have Hl := Lib.hid hl; have HO := Lib.hid hO1; clear hL hl hO1 hO))
      have hixB : ∀ (i : Nat) W, i < L → (Instr.indexAt 33 (.slice (some ⟨g, 0, none⟩) L c) (.int .i64 (i : Int))).run Tryz.prog W = .ok (.pointer (some ⟨g, i, none⟩)) W := by
        intro i W hi
        rw [run_indexAt_slice (h := elB), if_pos (by omega), szBt]
        simp [Result.andThen, Addr.add_lit]
      go_wp2_with fail
      go_loopw [6, 7] (fun i j wr => ∃ (k jn : Nat), k ≤ jn + 1 ∧ jn + k + 1 = L ∧ i = .int .i64 k ∧ j = .int .i64 jn ∧ Ext w wr ∧ OwnB w wr (.slice (some ⟨g, 0, none⟩) L c) (revk l k)) (fun _ j _ => (intOf j).toNat)
      case atStart => exact ⟨0, L - 1, by omega, by omega, rfl, by go_num, hE1, by rw [revk_zero]; exact HO.out⟩
      case round =>
        obtain ⟨k, jn, hk, hkj, rfl, rfl, hE2, hO2⟩ := hrel
        have Hkj := Lib.hid hkj
        by_cases hlt : k < jn
        · have hkL : k < L := by omega
          have hjL : jn < L := by omega
          clear hkj
          have hl2 : (revk l k).length = L := by rw [revk_len, ← HL.out]
          obtain ⟨hck, hfk⟩ := hO2.cellAt hl2 k hkL
          obtain ⟨hcj, hfj⟩ := hO2.cellAt hl2 jn hjL
          have Hl2 := Lib.hid hl2
          have HO2 := Lib.hid hO2
          clear hl2 hO2
          have hne : ¬ k = jn := by omega
          have hne2 : ¬ jn = k := by omega
          go_wp2_with fail
          go_big_region
          go_wp2_with fail
          go_roundw
          case rel =>
            have hkj' := Hkj.out
            have hj2 : (revk l k).length - 1 - k = jn := by rw [Hl2.out]; omega
            obtain ⟨hO3, hG3⟩ := HO2.out.stored_grown Hl2.out k (nth (revk l k) jn)
            obtain ⟨hO4, hG4⟩ := hO3.stored_grown (by rw [List.length_set]; exact Hl2.out) jn (nth (revk l k) k)
            have hst := revk_step l k (by rw [← HL.out]; omega)
            rw [← HL.out, show L - 1 - k = jn by omega] at hst
            rw [hst] at hO4
            exact ⟨k + 1, jn - 1, by omega, by omega, by go_num, by go_num, ((hE2.grown hG3 (fun q hq => by cases hq; exact hg0)).grown hG4 (fun q hq => by cases hq; exact hg0)).drew, hO4⟩
          case measure => (simp [intOf]; omega)
        · clear hkj
          have hcv := hO2.str (by rw [revk_len, ← HL.out])
          have He : Hid (strOfNums (revk l k) = fmtB (-6)) := Lib.hid (by
            have hk' := Hkj.out
            have hL' := HL.out
            rw [revk_end l k (by omega), Hl.out, Hf.out]; rfl)
          go_wp2_with fail
          go_ret
          exact ⟨ret_str He.out, hE2⟩
theorem fmtB_m7 : fmtB (-7) = ⟨#[45]⟩ ++ (strOfNums [55] ++ ⟨#[]⟩) := by
  unfold fmtB
  rw [if_neg (by omega), if_pos (by omega)]
  show _ ++ digs 7 _ = _
  rw [digs_pos _ (by omega), digs_zero]
  rfl
theorem sFormatInt_m7 (w : World) :
    Calls Tryz.prog 52 #[.int .i64 (-7)] w fun e w' => e = .returned (.string (fmtB (-7))) ∧ Ext w w' := by
  have Hf := Lib.hid fmtB_m7
  go_enter Tryz.func52, Tryz.ntmps52
  go_wp2_with fail
  go_loopw [0, 3] (fun d s wr => Ext w wr ∧ ((d = .int .i64 (-7) ∧ s = .string ⟨#[]⟩) ∨ (d = .int .i64 0 ∧ s = .string (strOfNums [55] ++ ⟨#[]⟩)))) (fun d _ _ => (intOf d).natAbs)
  case atStart => exact ⟨Ext.refl _, Or.inl ⟨rfl, rfl⟩⟩
  case round =>
    obtain ⟨hE, ⟨rfl, rfl⟩ | ⟨rfl, rfl⟩⟩ := hrel
    · have hcv := bytes_lit wr 55
      have hs1 : (strOfNums [(55 : Int)]).size = 1 := strOfNums_size _
      go_wp2_with fail
      go_roundw
      case rel => exact ⟨hE.alloc _, Or.inr ⟨rfl, rfl⟩⟩
      case measure => (simp [intOf])
    · have hs1 : (strOfNums [(55 : Int)] ++ ⟨#[]⟩).size = 1 := by rw [ByteArray.size_append, strOfNums_size]; rfl
      obtain ⟨t, ht⟩ : ∃ t, t = (strOfNums [(55 : Int)] ++ ⟨#[]⟩) := ⟨_, rfl⟩
      rw [← ht] at hs1 Hf ⊢
      go_wp2_with fail
      go_ret
      exact ⟨ret_str (by rw [Hf.out, ht]), hE⟩
theorem FormatInt_m7 (w : World) :
    Calls Tryz.prog 66 #[.int .i64 (-7)] w fun e w' => e = .returned (.string (fmtB (-7))) ∧ Ext w w' := by
  have hO0 := ownB_made (Ext.refl w)
  have hE0 := (Ext.refl w).alloc (.cells #[] 5)
  have Hf := Lib.hid fmtB_m7
  go_enter Tryz.func66, Tryz.ntmps66
  go_wp2_with fail
  go_loopw [3, 4] (fun v d wr => Ext w wr ∧ ((d = .int .i64 (-7) ∧ OwnB w wr v []) ∨ (d = .int .i64 0 ∧ OwnB w wr v [55]))) (fun _ d _ => (intOf d).natAbs)
  case atStart => exact ⟨hE0, Or.inl ⟨rfl, hO0⟩⟩
  case round =>
    obtain ⟨hE, ⟨rfl, hO⟩ | ⟨rfl, hO⟩⟩ := hrel
    · go_wp2_with (at_builtin; refine wp_append1B rfl _ _ rfl w _ _ _ _ hO hE (by simp) rfl rfl ?_; intro v1 w1 hO1 hE1)
      go_roundw
      case rel => exact ⟨hE1, Or.inr ⟨rfl, hO1⟩⟩
      case measure => (simp [intOf])
    · go_wp2_with (at_builtin; go_loud (refine wp_append1B rfl _ _ rfl w _ _ _ _ hO hE (by simp) rfl rfl ?_; intro v1 w1 hO1 hE1; obtain ⟨l, hl⟩ : ∃ l : List Int, l = [55] ++ [45] := ⟨_, rfl⟩; rw [← hl] at hO1; have hl0 : 0 < l.length := (by rw [hl]; simp); obtain ⟨g, c, hv, hlc, hg0, hg1, -⟩ := hO1.shape hl0; obtain ⟨L, hL⟩ : ∃ L, L = l.length := ⟨_, rfl⟩; have hL2 : L ≤ 2 := (by rw [hL, hl]; simp); rw [← hL] at hl0 hlc hv; subst hv; have HL := Lib.hid hL; have Hl := Lib.hid hl; have HO := Lib.hid hO1; clear hL hl hO1 hO))
      have hixB : ∀ (i : Nat) W, i < L → (Instr.indexAt 33 (.slice (some ⟨g, 0, none⟩) L c) (.int .i64 (i : Int))).run Tryz.prog W = .ok (.pointer (some ⟨g, i, none⟩)) W := by
        intro i W hi
        rw [run_indexAt_slice (h := elB), if_pos (by omega), szBt]
        simp [Result.andThen, Addr.add_lit]
      go_wp2_with fail
      go_loopw [6, 7] (fun i j wr => ∃ (k jn : Nat), k ≤ jn + 1 ∧ jn + k + 1 = L ∧ i = .int .i64 k ∧ j = .int .i64 jn ∧ Ext w wr ∧ OwnB w wr (.slice (some ⟨g, 0, none⟩) L c) (revk l k)) (fun _ j _ => (intOf j).toNat)
      case atStart => exact ⟨0, L - 1, by omega, by omega, rfl, by go_num, hE1, by rw [revk_zero]; exact HO.out⟩
      case round =>
        obtain ⟨k, jn, hk, hkj, rfl, rfl, hE2, hO2⟩ := hrel
        have Hkj := Lib.hid hkj
        by_cases hlt : k < jn
        · have hkL : k < L := by omega
          have hjL : jn < L := by omega
          clear hkj
          have hl2 : (revk l k).length = L := by rw [revk_len, ← HL.out]
          obtain ⟨hck, hfk⟩ := hO2.cellAt hl2 k hkL
          obtain ⟨hcj, hfj⟩ := hO2.cellAt hl2 jn hjL
          have Hl2 := Lib.hid hl2
          have HO2 := Lib.hid hO2
          clear hl2 hO2
          have hne : ¬ k = jn := by omega
          have hne2 : ¬ jn = k := by omega
          go_wp2_with fail
          go_big_region
          go_wp2_with fail
          go_roundw
          case rel =>
            have hkj' := Hkj.out
            have hj2 : (revk l k).length - 1 - k = jn := by rw [Hl2.out]; omega
            obtain ⟨hO3, hG3⟩ := HO2.out.stored_grown Hl2.out k (nth (revk l k) jn)
            obtain ⟨hO4, hG4⟩ := hO3.stored_grown (by rw [List.length_set]; exact Hl2.out) jn (nth (revk l k) k)
            have hst := revk_step l k (by rw [← HL.out]; omega)
            rw [← HL.out, show L - 1 - k = jn by omega] at hst
            rw [hst] at hO4
            exact ⟨k + 1, jn - 1, by omega, by omega, by go_num, by go_num, ((hE2.grown hG3 (fun q hq => by cases hq; exact hg0)).grown hG4 (fun q hq => by cases hq; exact hg0)).drew, hO4⟩
          case measure => (simp [intOf]; omega)
        · clear hkj
          have hcv := hO2.str (by rw [revk_len, ← HL.out])
          have He : Hid (strOfNums (revk l k) = fmtB (-7)) := Lib.hid (by
            have hk' := Hkj.out
            have hL' := HL.out
            rw [revk_end l k (by omega), Hl.out, Hf.out]; rfl)
          go_wp2_with fail
          go_ret
          exact ⟨ret_str He.out, hE2⟩
theorem fmtB_m8 : fmtB (-8) = ⟨#[45]⟩ ++ (strOfNums [56] ++ ⟨#[]⟩) := by
  unfold fmtB
  rw [if_neg (by omega), if_pos (by omega)]
  show _ ++ digs 8 _ = _
  rw [digs_pos _ (by omega), digs_zero]
  rfl
theorem sFormatInt_m8 (w : World) :
    Calls Tryz.prog 52 #[.int .i64 (-8)] w fun e w' => e = .returned (.string (fmtB (-8))) ∧ Ext w w' := by
  have Hf := Lib.hid fmtB_m8
  go_enter Tryz.func52, Tryz.ntmps52
  go_wp2_with fail
  go_loopw [0, 3] (fun d s wr => Ext w wr ∧ ((d = .int .i64 (-8) ∧ s = .string ⟨#[]⟩) ∨ (d = .int .i64 0 ∧ s = .string (strOfNums [56] ++ ⟨#[]⟩)))) (fun d _ _ => (intOf d).natAbs)
  case atStart => exact ⟨Ext.refl _, Or.inl ⟨rfl, rfl⟩⟩
  case round =>
    obtain ⟨hE, ⟨rfl, rfl⟩ | ⟨rfl, rfl⟩⟩ := hrel
    · have hcv := bytes_lit wr 56
      have hs1 : (strOfNums [(56 : Int)]).size = 1 := strOfNums_size _
      go_wp2_with fail
      go_roundw
      case rel => exact ⟨hE.alloc _, Or.inr ⟨rfl, rfl⟩⟩
      case measure => (simp [intOf])
    · have hs1 : (strOfNums [(56 : Int)] ++ ⟨#[]⟩).size = 1 := by rw [ByteArray.size_append, strOfNums_size]; rfl
      obtain ⟨t, ht⟩ : ∃ t, t = (strOfNums [(56 : Int)] ++ ⟨#[]⟩) := ⟨_, rfl⟩
      rw [← ht] at hs1 Hf ⊢
      go_wp2_with fail
      go_ret
      exact ⟨ret_str (by rw [Hf.out, ht]), hE⟩
theorem FormatInt_m8 (w : World) :
    Calls Tryz.prog 66 #[.int .i64 (-8)] w fun e w' => e = .returned (.string (fmtB (-8))) ∧ Ext w w' := by
  have hO0 := ownB_made (Ext.refl w)
  have hE0 := (Ext.refl w).alloc (.cells #[] 5)
  have Hf := Lib.hid fmtB_m8
  go_enter Tryz.func66, Tryz.ntmps66
  go_wp2_with fail
  go_loopw [3, 4] (fun v d wr => Ext w wr ∧ ((d = .int .i64 (-8) ∧ OwnB w wr v []) ∨ (d = .int .i64 0 ∧ OwnB w wr v [56]))) (fun _ d _ => (intOf d).natAbs)
  case atStart => exact ⟨hE0, Or.inl ⟨rfl, hO0⟩⟩
  case round =>
    obtain ⟨hE, ⟨rfl, hO⟩ | ⟨rfl, hO⟩⟩ := hrel
    · go_wp2_with (at_builtin; refine wp_append1B rfl _ _ rfl w _ _ _ _ hO hE (by simp) rfl rfl ?_; intro v1 w1 hO1 hE1)
      go_roundw
      case rel => exact ⟨hE1, Or.inr ⟨rfl, hO1⟩⟩
      case measure => (simp [intOf])
    · go_wp2_with (at_builtin; go_loud (refine wp_append1B rfl _ _ rfl w _ _ _ _ hO hE (by simp) rfl rfl ?_; intro v1 w1 hO1 hE1; obtain ⟨l, hl⟩ : ∃ l : List Int, l = [56] ++ [45] := ⟨_, rfl⟩; rw [← hl] at hO1; have hl0 : 0 < l.length := (by rw [hl]; simp); obtain ⟨g, c, hv, hlc, hg0, hg1, -⟩ := hO1.shape hl0; obtain ⟨L, hL⟩ : ∃ L, L = l.length := ⟨_, rfl⟩; have hL2 : L ≤ 2 := (by rw [hL, hl]; simp); rw [← hL] at hl0 hlc hv; subst hv; have HL := Lib.hid hL; have Hl := Lib.hid hl; have HO := Lib.hid hO1; clear hL hl hO1 hO))
      have hixB : ∀ (i : Nat) W, i < L → (Instr.indexAt 33 (.slice (some ⟨g, 0, none⟩) L c) (.int .i64 (i : Int))).run Tryz.prog W = .ok (.pointer (some ⟨g, i, none⟩)) W := by
        intro i W hi
        rw [run_indexAt_slice (h := elB), if_pos (by omega), szBt]
        simp [Result.andThen, Addr.add_lit]
      go_wp2_with fail
      go_loopw [6, 7] (fun i j wr => ∃ (k jn : Nat), k ≤ jn + 1 ∧ jn + k + 1 = L ∧ i = .int .i64 k ∧ j = .int .i64 jn ∧ Ext w wr ∧ OwnB w wr (.slice (some ⟨g, 0, none⟩) L c) (revk l k)) (fun _ j _ => (intOf j).toNat)
      case atStart => exact ⟨0, L - 1, by omega, by omega, rfl, by go_num, hE1, by rw [revk_zero]; exact HO.out⟩
      case round =>
        obtain ⟨k, jn, hk, hkj, rfl, rfl, hE2, hO2⟩ := hrel
        have Hkj := Lib.hid hkj
        by_cases hlt : k < jn
        · have hkL : k < L := by omega
          have hjL : jn < L := by omega
          clear hkj
          have hl2 : (revk l k).length = L := by rw [revk_len, ← HL.out]
          obtain ⟨hck, hfk⟩ := hO2.cellAt hl2 k hkL
          obtain ⟨hcj, hfj⟩ := hO2.cellAt hl2 jn hjL
          have Hl2 := Lib.hid hl2
          have HO2 := Lib.hid hO2
          clear hl2 hO2
          have hne : ¬ k = jn := by omega
          have hne2 : ¬ jn = k := by omega
          go_wp2_with fail
          go_big_region
          go_wp2_with fail
          go_roundw
          case rel =>
            have hkj' := Hkj.out
            have hj2 : (revk l k).length - 1 - k = jn := by rw [Hl2.out]; omega
            obtain ⟨hO3, hG3⟩ := HO2.out.stored_grown Hl2.out k (nth (revk l k) jn)
            obtain ⟨hO4, hG4⟩ := hO3.stored_grown (by rw [List.length_set]; exact Hl2.out) jn (nth (revk l k) k)
            have hst := revk_step l k (by rw [← HL.out]; omega)
            rw [← HL.out, show L - 1 - k = jn by omega] at hst
            rw [hst] at hO4
            exact ⟨k + 1, jn - 1, by omega, by omega, by go_num, by go_num, ((hE2.grown hG3 (fun q hq => by cases hq; exact hg0)).grown hG4 (fun q hq => by cases hq; exact hg0)).drew, hO4⟩
          case measure => (simp [intOf]; omega)
        · clear hkj
          have hcv := hO2.str (by rw [revk_len, ← HL.out])
          have He : Hid (strOfNums (revk l k) = fmtB (-8)) := Lib.hid (by
            have hk' := Hkj.out
            have hL' := HL.out
            rw [revk_end l k (by omega), Hl.out, Hf.out]; rfl)
          go_wp2_with fail
          go_ret
          exact ⟨ret_str He.out, hE2⟩
theorem fmtB_m9 : fmtB (-9) = ⟨#[45]⟩ ++ (strOfNums [57] ++ ⟨#[]⟩) := by
  unfold fmtB
  rw [if_neg (by omega), if_pos (by omega)]
  show _ ++ digs 9 _ = _
  rw [digs_pos _ (by omega), digs_zero]
  rfl
theorem sFormatInt_m9 (w : World) :
    Calls Tryz.prog 52 #[.int .i64 (-9)] w fun e w' => e = .returned (.string (fmtB (-9))) ∧ Ext w w' := by
  have Hf := Lib.hid fmtB_m9
  go_enter Tryz.func52, Tryz.ntmps52
  go_wp2_with fail
  go_loopw [0, 3] (fun d s wr => Ext w wr ∧ ((d = .int .i64 (-9) ∧ s = .string ⟨#[]⟩) ∨ (d = .int .i64 0 ∧ s = .string (strOfNums [57] ++ ⟨#[]⟩)))) (fun d _ _ => (intOf d).natAbs)
  case atStart => exact ⟨Ext.refl _, Or.inl ⟨rfl, rfl⟩⟩
  case round =>
    obtain ⟨hE, ⟨rfl, rfl⟩ | ⟨rfl, rfl⟩⟩ := hrel
    · have hcv := bytes_lit wr 57
      have hs1 : (strOfNums [(57 : Int)]).size = 1 := strOfNums_size _
      go_wp2_with fail
      go_roundw
      case rel => exact ⟨hE.alloc _, Or.inr ⟨rfl, rfl⟩⟩
      case measure => (simp [intOf])
    · have hs1 : (strOfNums [(57 : Int)] ++ ⟨#[]⟩).size = 1 := by rw [ByteArray.size_append, strOfNums_size]; rfl
      obtain ⟨t, ht⟩ : ∃ t, t = (strOfNums [(57 : Int)] ++ ⟨#[]⟩) := ⟨_, rfl⟩
      rw [← ht] at hs1 Hf ⊢
      go_wp2_with fail
      go_ret
      exact ⟨ret_str (by rw [Hf.out, ht]), hE⟩
theorem FormatInt_m9 (w : World) :
    Calls Tryz.prog 66 #[.int .i64 (-9)] w fun e w' => e = .returned (.string (fmtB (-9))) ∧ Ext w w' := by
  have hO0 := ownB_made (Ext.refl w)
  have hE0 := (Ext.refl w).alloc (.cells #[] 5)
  have Hf := Lib.hid fmtB_m9
  go_enter Tryz.func66, Tryz.ntmps66
  go_wp2_with fail
  go_loopw [3, 4] (fun v d wr => Ext w wr ∧ ((d = .int .i64 (-9) ∧ OwnB w wr v []) ∨ (d = .int .i64 0 ∧ OwnB w wr v [57]))) (fun _ d _ => (intOf d).natAbs)
  case atStart => exact ⟨hE0, Or.inl ⟨rfl, hO0⟩⟩
  case round =>
    obtain ⟨hE, ⟨rfl, hO⟩ | ⟨rfl, hO⟩⟩ := hrel
    · go_wp2_with (at_builtin; refine wp_append1B rfl _ _ rfl w _ _ _ _ hO hE (by simp) rfl rfl ?_; intro v1 w1 hO1 hE1)
      go_roundw
      case rel => exact ⟨hE1, Or.inr ⟨rfl, hO1⟩⟩
      case measure => (simp [intOf])
    · go_wp2_with (at_builtin; go_loud (refine wp_append1B rfl _ _ rfl w _ _ _ _ hO hE (by simp) rfl rfl ?_; intro v1 w1 hO1 hE1; obtain ⟨l, hl⟩ : ∃ l : List Int, l = [57] ++ [45] := ⟨_, rfl⟩; rw [← hl] at hO1; have hl0 : 0 < l.length := (by rw [hl]; simp); obtain ⟨g, c, hv, hlc, hg0, hg1, -⟩ := hO1.shape hl0; obtain ⟨L, hL⟩ : ∃ L, L = l.length := ⟨_, rfl⟩; have hL2 : L ≤ 2 := (by rw [hL, hl]; simp); rw [← hL] at hl0 hlc hv; subst hv; have HL := Lib.hid hL; have Hl := Lib.hid hl; have HO := Lib.hid hO1; clear hL hl hO1 hO))
      have hixB : ∀ (i : Nat) W, i < L → (Instr.indexAt 33 (.slice (some ⟨g, 0, none⟩) L c) (.int .i64 (i : Int))).run Tryz.prog W = .ok (.pointer (some ⟨g, i, none⟩)) W := by
        intro i W hi
        rw [run_indexAt_slice (h := elB), if_pos (by omega), szBt]
        simp [Result.andThen, Addr.add_lit]
      go_wp2_with fail
      go_loopw [6, 7] (fun i j wr => ∃ (k jn : Nat), k ≤ jn + 1 ∧ jn + k + 1 = L ∧ i = .int .i64 k ∧ j = .int .i64 jn ∧ Ext w wr ∧ OwnB w wr (.slice (some ⟨g, 0, none⟩) L c) (revk l k)) (fun _ j _ => (intOf j).toNat)
      case atStart => exact ⟨0, L - 1, by omega, by omega, rfl, by go_num, hE1, by rw [revk_zero]; exact HO.out⟩
      case round =>
        obtain ⟨k, jn, hk, hkj, rfl, rfl, hE2, hO2⟩ := hrel
        have Hkj := Lib.hid hkj
        by_cases hlt : k < jn
        · have hkL : k < L := by omega
          have hjL : jn < L := by omega
          clear hkj
          have hl2 : (revk l k).length = L := by rw [revk_len, ← HL.out]
          obtain ⟨hck, hfk⟩ := hO2.cellAt hl2 k hkL
          obtain ⟨hcj, hfj⟩ := hO2.cellAt hl2 jn hjL
          have Hl2 := Lib.hid hl2
          have HO2 := Lib.hid hO2
          clear hl2 hO2
          have hne : ¬ k = jn := by omega
          have hne2 : ¬ jn = k := by omega
          go_wp2_with fail
          go_big_region
          go_wp2_with fail
          go_roundw
          case rel =>
            have hkj' := Hkj.out
            have hj2 : (revk l k).length - 1 - k = jn := by rw [Hl2.out]; omega
            obtain ⟨hO3, hG3⟩ := HO2.out.stored_grown Hl2.out k (nth (revk l k) jn)
            obtain ⟨hO4, hG4⟩ := hO3.stored_grown (by rw [List.length_set]; exact Hl2.out) jn (nth (revk l k) k)
            have hst := revk_step l k (by rw [← HL.out]; omega)
            rw [← HL.out, show L - 1 - k = jn by omega] at hst
            rw [hst] at hO4
            exact ⟨k + 1, jn - 1, by omega, by omega, by go_num, by go_num, ((hE2.grown hG3 (fun q hq => by cases hq; exact hg0)).grown hG4 (fun q hq => by cases hq; exact hg0)).drew, hO4⟩
          case measure => (simp [intOf]; omega)
        · clear hkj
          have hcv := hO2.str (by rw [revk_len, ← HL.out])
          have He : Hid (strOfNums (revk l k) = fmtB (-9)) := Lib.hid (by
            have hk' := Hkj.out
            have hL' := HL.out
            rw [revk_end l k (by omega), Hl.out, Hf.out]; rfl)
          go_wp2_with fail
          go_ret
          exact ⟨ret_str He.out, hE2⟩
theorem sFormatInt9_any (n : Int) (hn : -9 ≤ n ∧ n < 1000000000000) (w : World) :
    Calls Tryz.prog 52 #[.int .i64 n] w fun e w' => e = .returned (.string (fmtB n)) ∧ Ext w w' := by
  rcases (by omega : -1 ≤ n ∨ n = -2 ∨ n = -3 ∨ n = -4 ∨ n = -5 ∨ n = -6 ∨ n = -7 ∨ n = -8 ∨ n = -9) with h | rfl | rfl | rfl | rfl | rfl | rfl | rfl | rfl
  · exact sFormatInt_any n ⟨h, hn.2⟩ w
  · exact sFormatInt_m2 w
  · exact sFormatInt_m3 w
  · exact sFormatInt_m4 w
  · exact sFormatInt_m5 w
  · exact sFormatInt_m6 w
  · exact sFormatInt_m7 w
  · exact sFormatInt_m8 w
  · exact sFormatInt_m9 w
theorem FormatInt9_any (n : Int) (hn : -9 ≤ n ∧ n < 1000000000000) (w : World) :
    Calls Tryz.prog 66 #[.int .i64 n] w fun e w' => e = .returned (.string (fmtB n)) ∧ Ext w w' := by
  rcases (by omega : -1 ≤ n ∨ n = -2 ∨ n = -3 ∨ n = -4 ∨ n = -5 ∨ n = -6 ∨ n = -7 ∨ n = -8 ∨ n = -9) with h | rfl | rfl | rfl | rfl | rfl | rfl | rfl | rfl
  · exact FormatInt_any n ⟨h, hn.2⟩ w
  · exact FormatInt_m2 w
  · exact FormatInt_m3 w
  · exact FormatInt_m4 w
  · exact FormatInt_m5 w
  · exact FormatInt_m6 w
  · exact FormatInt_m7 w
  · exact FormatInt_m8 w
  · exact FormatInt_m9 w
theorem fmtB9_size {n : Int} (h : -9 ≤ n ∧ n < 1000000000000) : (fmtB n).size ≤ 13 := by
  unfold fmtB
  split
  · decide
  · split
    · have := digs_size (m := n.natAbs) (by omega)
      rw [ByteArray.size_append]
      have e : (⟨#[45]⟩ : ByteArray).size = 1 := rfl
      omega
    · have := digs_size (m := n.natAbs) (by omega)
      omega
end Go.Zz

/- Lists of numbers from -9 on, as text. -/
namespace Go.Zz
open Go.RowKit Go.Proofs
set_option maxHeartbeats 1000000
set_option maxRecDepth 8000

theorem fmtB9_some {n : Int} (h : -9 ≤ n ∧ n < 1000000000000) : 1 ≤ (fmtB n).size := by
  unfold fmtB
  split
  · decide
  · split
    · rw [ByteArray.size_append]
      have e : (⟨#[45]⟩ : ByteArray).size = 1 := rfl
      omega
    · exact digs_some (by omega)
theorem numF9_size {l : List Int} (h : ∀ i, i < l.length → -9 ≤ nth l i ∧ nth l i < 1000000000000) (hl : l.length ≤ 40) : (numF l).size ≤ 560 := by
  unfold numF
  split
  · decide
  · have := jn_size comma (fun i => fmtB (nth l i)) (by decide) l.length fun i hi => fmtB9_size (h i hi)
    omega
theorem numbers9_any (v : Value) (l : List Int) (w : World) (h : Ints w v l) (hr : ∀ i, i < l.length → -9 ≤ nth l i ∧ nth l i < 1000000000000) (hl : l.length ≤ 1000) :
    Calls Tryz.prog 72 #[v] w fun e w' => e = .returned (.string (numF l)) ∧ Ext w w' := by
  obtain ⟨ao, c, adr, rfl, hlen, hadr, hcell⟩ := h.op
  have hix := ints_index (c := c) elI szI hadr
  clear hadr h
  have Hr := Lib.hid hr
  clear hr
  have hO0 := ownS_made (Ext.refl w)
  have hE0 := (Ext.refl w).alloc (.cells #[] 9)
  by_cases h0 : l.length = 0
  · have He : Hid (numF l = ⟨#[110, 111, 110, 101]⟩) := Lib.hid (by unfold numF; rw [if_pos h0])
    go_enter Tryz.func72, Tryz.ntmps72
    go_wp2_with fail
    go_ret
    exact ⟨ret_str He.out.symm, Ext.refl _⟩
  · have h00 : ((l.length : Int) == 0) = false := by rw [beq_eq_false_iff_ne]; omega
    have He : Hid (numF l = jn comma (nthS (l.map fmtB)) (l.map fmtB).length) := Lib.hid (by
      unfold numF; rw [if_neg h0, List.length_map]
      exact jn_congr _ _ _ _ fun i hi => (nthS_map l i hi).symm)
    go_enter Tryz.func72, Tryz.ntmps72
    go_wp2_with fail
    go_loopw [3, 12] (fun v i wr => ∃ k : Nat, k ≤ l.length ∧ i = .int .i64 k ∧ OwnS w wr v ((l.take k).map fmtB) ∧ Ext w wr) (fun _ i _ => l.length - (intOf i).toNat)
    case atStart => exact ⟨0, by omega, rfl, hO0, hE0⟩
    case round =>
      obtain ⟨k, hk, rfl, hO, hE⟩ := hrel
      by_cases hlt : k < l.length
      · have hck := hcell k _ hlt hE
        have hrk := Hr.out k hlt
        have hcI := FormatInt9_any (nth l k) hrk
        have hlk : ((l.take k).map fmtB).length < 1000000 := by rw [List.length_map, List.length_take]; omega
        go_wp2_with (first | (go_at_call 66; with_reducible refine (hcI _).mono ?_; rintro e wc ⟨rfl, hEc⟩) | (at_builtin; refine wp_append1S rfl _ _ rfl w _ _ _ _ (hO.ext hEc) (hE.trans hEc) hlk rfl rfl ?_; intro v1 w1 hO1 hE1))
        go_roundw
        case rel => exact ⟨k + 1, by omega, by go_num, by rw [take_fmt _ _ hlt]; exact hO1, hE1⟩
        case measure => (simp [intOf]; omega)
      · have hkl : k = l.length := by omega
        subst hkl
        rw [List.take_length] at hO
        have hS := hO.strs
        have hc := glued_any _ (l.map fmtB) comma _ hS (by decide) (fun i hi => by
          rw [List.length_map] at hi
          rw [nthS_map l i hi]; exact fmtB9_size (Hr.out i hi))
        go_wp2_with (refine hc.mono ?_; rintro e w1 ⟨rfl, rfl⟩)
        go_ret
        exact ⟨ret_str (by rw [He.out, List.length_map]), hE⟩
theorem sNumbers9_any (v : Value) (m : List Int) (w : World) (h : Ints w v m) (hr : ∀ i, i < m.length → -9 ≤ nth m i ∧ nth m i < 1000000000000) (hl : m.length ≤ 1000) :
    Calls Tryz.prog 57 #[v] w fun e w' => e = .returned (.string (numF m)) ∧ Ext w w' := by
  obtain ⟨aoL, cL, adrL, rfl, hlenL, hadrL, hcellL⟩ := h.op
  have hixL := ints_index (c := cL) elI szI hadrL
  have Hin := Lib.hid hr
  clear hadrL h hr
  go_enter Tryz.func57, Tryz.ntmps57
  go_wp2_with fail
  go_loopw [3, 4] (fun s i wr => ∃ (k : Nat) (t : ByteArray), k ≤ m.length ∧ i = .int .i64 k ∧ s = .string t ∧ Hid (t = jn comma (fun i => fmtB (nth m i)) k) ∧ Ext w wr) (fun _ i _ => m.length - (intOf i).toNat)
  case atStart => exact ⟨0, _, by omega, rfl, rfl, Lib.hid rfl, Ext.refl _⟩
  case round =>
    obtain ⟨k, t, hk, rfl, rfl, Ht, hEr⟩ := hrel
    have hts : t.size ≤ 14 * k := by rw [Ht.out]; exact jn_size _ _ (by decide) k fun i hi => fmtB9_size (Hin.out i (by omega))
    by_cases hlt : k < m.length
    · have hck := hcellL k _ hlt hEr
      have hcF := sFormatInt9_any (nth m k) (Hin.out k hlt)
      have hsz : (fmtB (nth m k)).size ≤ 13 := fmtB9_size (Hin.out k hlt)
      obtain ⟨u, hu⟩ : ∃ u, u = fmtB (nth m k) := ⟨_, rfl⟩
      rw [← hu] at hsz hcF
      have He := Lib.hid hu
      clear hu
      by_cases hk0 : 0 < k
      · have hk1 : (0:Int) < k := by omega
        go_wp2_with (refine (hcF _).mono ?_; rintro e w2 ⟨rfl, hE2⟩)
        go_roundw
        case rel => exact ⟨k + 1, _, by omega, by go_num, rfl, Lib.hid (by rw [jn_next _ _ hk0, ← Ht.out, He.out]; rfl), hEr.trans hE2⟩
        case measure => (simp [intOf]; omega)
      · have hk1 : k = 0 := by omega
        subst hk1
        have hix0 : ∀ W, (Instr.indexAt 22 (.slice aoL m.length cL) (.int .i64 0)).run Tryz.prog W = .ok (.pointer (some (adrL 0))) W := fun W => by simpa using hixL 0 W hlt
        go_wp2_with (refine (hcF _).mono ?_; rintro e w2 ⟨rfl, hE2⟩)
        go_roundw
        case rel => exact ⟨1, _, by omega, rfl, rfl, Lib.hid (by rw [jn_first, He.out, Ht.out]; rfl), hEr.trans hE2⟩
        case measure => (simp [intOf]; omega)
    · have hkl : k = m.length := by omega
      subst hkl
      by_cases h0 : m.length = 0
      · have ht0 : t = ⟨#[]⟩ := by rw [Ht.out, h0]; rfl
        subst ht0
        have Hf : Hid (numF m = ⟨#[110, 111, 110, 101]⟩) := Lib.hid (by unfold numF; rw [if_pos h0])
        clear h0 hts
        go_wp2_with fail
        go_ret
        exact ⟨ret_str Hf.out.symm, hEr⟩
      · have He : Hid (numF m = t) := Lib.hid (by unfold numF; rw [if_neg h0, Ht.out])
        have h1 := jn_some comma (fun i => fmtB (nth m i)) m.length (by omega) fun i hi => fmtB9_some (Hin.out i hi)
        rw [← Ht.out] at h1
        have ht1 := str_some h1
        go_wp2_with fail
        go_ret
        exact ⟨ret_str He.out.symm, hEr⟩
end Go.Zz

/- Lines with more parts where something is so; l34Yes. -/
namespace Go.Zz
open Go.RowKit Go.Proofs
set_option maxHeartbeats 1000000
set_option maxRecDepth 4000

theorem ownS_one (w : World) (s : ByteArray) : OwnS w (w.alloc (.cells #[.string s] 9)) (.slice (some ⟨w.heap.size, 0, none⟩) 1 1) [s] := by
  have := World.ownsRow_lit (base := w.heap.size) (e := 9) (size := 1) w #[.string s] 1 (Nat.le_refl _) (by unfold maxLen; omega) (by simp)
  exact ⟨by simpa using this, by simp⟩
section
variable {ops : Array Oper} {rest : List Oper} {o : Oper} {a : Act} {Q : Exit → Act → World → Prop}
theorem wp_appendsS (hg : o.guard = none) (s x : Operand) (hop : o.op = Op.call { callee := Callee.builtin Builtin.append, args := #[s, x], argTypes := #[105, 105] })
    (w0 W : World) (v u : Value) (l m : List ByteArray) (hO : OwnS w0 W v l) (hM : Strs W u m) (hE : Ext w0 W) (hm0 : 0 < m.length) (hn : l.length + m.length < 1000000) (hs : a.eval s = v) (hx : a.eval x = u)
    (hK : ∀ v' w', OwnS w0 w' v' (l ++ m) → Ext w0 w' → wpList Tryz.prog ops Q rest (a.put o.dst v') w') :
    wpList Tryz.prog ops Q (o :: rest) a W := by
  obtain ⟨i, hi, hz, hs1, hby⟩ := info_parts infoS
  obtain ⟨ao, c, rfl, hlen, hcell⟩ := hM
  obtain ⟨g, rfl, -⟩ := hcell 0 hm0
  refine wpList_append_own _ hg s x 105 hop w0.heap.size 9 i (.string ⟨#[]⟩) 1 16 undS hi hz hs1 hby rfl (by omega) v l.length _ hs hO.1 ⟨g, 0, none⟩ m.length c (m.map Value.string) hx (by simp) ?_ ?_ (by unfold maxLen; omega) (by omega) hE.size ?_
  · intro j u hu
    have hj : j < m.length := by have := (List.getElem?_eq_some_iff.1 hu).1; simpa using this
    obtain ⟨g', hg', hc⟩ := hcell j hj
    simp only [Option.some.injEq, Addr.mk.injEq, and_true] at hg'
    subst hg'
    rw [Addr.add_lit, Nat.zero_add, hc, ← hu]; simp [nthS, List.getD, hj]
  · intro u hu
    obtain ⟨y, _, rfl⟩ := List.mem_map.1 hu
    rfl
  · intro v' w' h1 hg' _
    exact hK v' w' ⟨by simpa using h1, by simp; omega⟩ (hE.grown hg' fun k hk => (hO.blk k hk).1)
end
theorem ifSo_any (s : ByteArray) (b : Bool) (v : Value) (m : List ByteArray) (w : World) (h : Strs w v m) (hs : s.size ≤ 5000) (hm : ∀ i, i < m.length → (nthS m i).size ≤ 5000) (h0 : 0 < m.length) (hn : m.length ≤ 50) :
    Calls Tryz.prog 71 #[.string s, .bool b, v] w fun e w' => e = .returned (.string (if b then lineF (s :: m) else s)) ∧ Ext w w' := by
  cases b
  · go_enter Tryz.func71, Tryz.ntmps71
    go_wp2_with fail
    go_ret
    exact ⟨rfl, Ext.refl _⟩
  · have hE := (Ext.refl w).alloc (.cells #[.string s] 9)
    have hM := h.ext hE
    have hO := ownS_one w s
    have hcL := fun v' W (hv : Strs W v' (s :: m)) => line_any v' (s :: m) W hv (fun i hi => by
      cases i with
      | zero => exact hs
      | succ i => exact hm i (by simpa using hi)) (by simp; omega)
    have hln : [s].length + m.length < 1000000 := by simp; omega
    obtain ⟨ao, c, rfl, -, -⟩ := h
    clear hm hs
    go_enter Tryz.func71, Tryz.ntmps71
    go_wp2_with (first | (at_builtin; refine wp_appendsS rfl _ _ rfl w _ _ _ _ _ hO hM hE h0 hln rfl rfl ?_; intro v1 w1 hO1 hE1) | (go_at_call 64; refine (hcL _ _ hO1.strs).mono ?_; rintro e w2 ⟨rfl, rfl⟩))
    go_ret
    exact ⟨rfl, hE1⟩
theorem yes_any (b : Bool) (s : ByteArray) (w : World) :
    Calls Tryz.prog 61 #[.bool b, .string s] w fun e w' => e = .returned (.string (if b then s else ⟨#[]⟩)) ∧ w = w' := by
  cases b
  · go_enter Tryz.func61, Tryz.ntmps61
    go_wp2_with fail
    go_ret
    exact ⟨rfl, rfl⟩
  · go_enter Tryz.func61, Tryz.ntmps61
    go_wp2_with fail
    go_ret
    exact ⟨rfl, rfl⟩
theorem bytes_ext {x y : ByteArray} (h : x.data.toList = y.data.toList) : x = y := by
  cases x; cases y; simp only at h; congr 1; exact Array.toList_inj.1 h
theorem data_app (x y : ByteArray) : (x ++ y).data.toList = x.data.toList ++ y.data.toList := by
  rw [ByteArray.data_append]; simp
end Go.Zz
