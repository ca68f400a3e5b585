/- ExtremalLine of the program. -/
import Derived.Test.YtgmbjfjihhdenaaGr17
import Derived.Deep.RegionHeld3
namespace Go.Zz
open Go.RowKit Go.Proofs
set_option maxHeartbeats 2000000
set_option maxRecDepth 8000

theorem jn_sz (s : ByteArray) (f : Nat → ByteArray) (hs : s.size ≤ 1) : ∀ k, (∀ i, i < k → (f i).size ≤ 27) → (jn s f k).size ≤ 28 * k
  | 0, _ => Nat.le_refl _
  | 1, h => by
    have := h 0 (by omega)
    rw [jn_first, ByteArray.size_append]
    have e : (⟨#[]⟩ : ByteArray).size = 0 := rfl
    omega
  | k + 2, h => by
    have ih := jn_sz s f hs (k + 1) fun i hi => h i (by omega)
    have := h (k + 1) (by omega)
    rw [jn_next s f (by omega), ByteArray.size_append, ByteArray.size_append]; omega
theorem fqF_sz (l xs : List Int) : (fqF l xs).size ≤ 400 := by
  cases hs : seqB l xs
  · rw [fqF_no hs]; decide
  · obtain ⟨X, rfl, -, hX12, -, hX⟩ := seqB_nat hs
    by_cases h0 : X.length = 0
    · rw [fqF_none hs (by rw [castL_len]; exact h0)]; decide
    · rw [fqF_yes hs h0]
      have hfl := fqL_len X X.length
      have := jn_sz sp1 (nthS (fqL X X.length)) (by decide) (fqL X X.length).length (fun i hi => fqL_size (X := X) (by omega) hX X.length (Nat.le_refl _) _ (nthS_mem hi))
      omega
theorem el_line (A B C D : ByteArray) : lineF [(⟨#[101, 120, 116, 114, 101, 109, 97, 108, 32, 102, 114, 101, 101]⟩ : ByteArray), A, (⟨#[115, 117, 109, 102, 114, 101, 101]⟩ : ByteArray), B, (⟨#[115, 105, 100, 111, 110]⟩ : ByteArray), C, (⟨#[97, 112, 102, 114, 101, 101]⟩ : ByteArray), D] = (((((((⟨#[101, 120, 116, 114, 101, 109, 97, 108, 32, 102, 114, 101, 101, 32]⟩ : ByteArray) ++ A) ++ (⟨#[32, 115, 117, 109, 102, 114, 101, 101, 32]⟩ : ByteArray)) ++ B) ++ (⟨#[32, 115, 105, 100, 111, 110, 32]⟩ : ByteArray)) ++ C) ++ (⟨#[32, 97, 112, 102, 114, 101, 101, 32]⟩ : ByteArray)) ++ D := by
  apply bytes_ext
  simp [lineF, jn, nthS, spB, List.getD]
theorem ExtremalLine_any (v : Value) (l : List Int) (w : World) (h : Ints w v l) :
    Calls Try.prog 16 #[.agg #[v]] w fun e w' => e = .returned (.string (elF l)) ∧ Ext w w' := by
  obtain ⟨wb, hwb⟩ : ∃ wb, wb = w.alloc (.cells #[v] 31) := ⟨_, rfl⟩
  have hE0 := (Ext.refl w).alloc (.cells #[v] 31)
  have hb := box_cell w v 31
  rw [← hwb] at hE0 hb
  have hg : ∀ W, Ext wb W → Ints W v l := fun W hW => h.ext (hE0.trans hW)
  have hE := Ext.refl wb
  have Hsz : Hid (w.heap.size + 1 = wb.heap.size) := Lib.hid (by rw [hwb]; simp [go_sem])
  have Hwb := Lib.hid hwb
  clear hwb h
  have hbx := hb wb hE
  have cG := IsGroup_any v l wb (hg _ hE)
  cases hgr : isGrp l
  · have hB : lzB l = false := by unfold lzB; rw [hgr]; rfl
    have Hs := Lib.hid (elF_no hB)
    rw [hgr] at cG
    clear hB
    go_enter Try.func16, Try.ntmps16
    go_wp2_with fail
    rw [← Hwb.out]
    refine cG.mono ?_
    rintro e w1 ⟨rfl, hE1⟩
    go_wp2_with fail
    go_ret
    exact ⟨ret_str Hs.out.symm, hE0.trans hE1⟩
  rw [hgr] at cG
  have Hgr := Lib.hid hgr
  have hob := ord_bd hgr
  have cO := fun W (hW : Ext wb W) => OrderOf_grp v l W (hg _ hW) Hgr
  by_cases hm : ord l ≤ 9
  rotate_left
  · have hB : lzB l = false := by unfold lzB; rw [hgr]; simpa using hm
    have Hs := Lib.hid (elF_no hB)
    clear hB
    go_enter Try.func16, Try.ntmps16
    go_wp2_with fail
    rw [← Hwb.out]
    refine cG.mono ?_
    rintro e w1 ⟨rfl, hE1⟩
    have hb1 := hb w1 hE1
    go_wp2_with (refine (cO _ hE1).mono ?_; rintro e w2 ⟨rfl, hE2⟩)
    go_ret
    exact ⟨ret_str Hs.out.symm, hE0.trans (hE1.trans hE2)⟩
  have hB : lzB l = true := by unfold lzB; rw [hgr]; simpa using hm
  have Hs := Lib.hid (elF_yes hB)
  have c1 := fun W (hW : Ext wb W) => LongestZeroFree_any v l W (hg _ hW)
  have c2 := fun W (hW : Ext wb W) => LargestSumFree_any v l W (hg _ hW)
  have c3 := fun W (hW : Ext wb W) => LargestSidon_any v l W (hg _ hW)
  have c4 := fun W (hW : Ext wb W) => LargestApFree_any v l W (hg _ hW)
  have cA := fun W vZ (hW : Ext wb W) (hI : Ints W vZ (castL (lzL l))) => FormatSequence_any v vZ l (castL (lzL l)) W (hg _ hW) hI
  have cB := fun W (hW : Ext wb W) => FormatSet_any v l (lgV (freeP l) l 16 : Nat) W (hg _ hW)
  have cC := fun W (hW : Ext wb W) => FormatSet_any v l (lgV (sidP l) l 13 : Nat) W (hg _ hW)
  have cD := fun W (hW : Ext wb W) => FormatSet_any v l (lgV (apP l) l 11 : Nat) W (hg _ hW)
  have sA := fqF_sz l (castL (lzL l))
  have sB := fsF_sz l (lgV (freeP l) l 16 : Nat)
  have sC := fsF_sz l (lgV (sidP l) l 13 : Nat)
  have sD := fsF_sz l (lgV (apP l) l 11 : Nat)
  obtain ⟨A, hA⟩ : ∃ x, x = fqF l (castL (lzL l)) := ⟨_, rfl⟩
  obtain ⟨B, hBd⟩ : ∃ x, x = fsF l (lgV (freeP l) l 16 : Nat) := ⟨_, rfl⟩
  obtain ⟨C, hC⟩ : ∃ x, x = fsF l (lgV (sidP l) l 13 : Nat) := ⟨_, rfl⟩
  obtain ⟨D, hD⟩ : ∃ x, x = fsF l (lgV (apP l) l 11 : Nat) := ⟨_, rfl⟩
  rw [← hA] at cA sA Hs
  rw [← hBd] at cB sB Hs
  rw [← hC] at cC sC Hs
  rw [← hD] at cD sD Hs
  obtain ⟨n2, h2⟩ : ∃ x, x = lgV (freeP l) l 16 := ⟨_, rfl⟩
  obtain ⟨n3, h3⟩ : ∃ x, x = lgV (sidP l) l 13 := ⟨_, rfl⟩
  obtain ⟨n4, h4⟩ : ∃ x, x = lgV (apP l) l 11 := ⟨_, rfl⟩
  rw [← h2] at c2 cB
  rw [← h3] at c3 cC
  rw [← h4] at c4 cD
  have hln : ∀ i, i < ([(⟨#[101, 120, 116, 114, 101, 109, 97, 108, 32, 102, 114, 101, 101]⟩ : ByteArray), A, (⟨#[115, 117, 109, 102, 114, 101, 101]⟩ : ByteArray), B, (⟨#[115, 105, 100, 111, 110]⟩ : ByteArray), C, (⟨#[97, 112, 102, 114, 101, 101]⟩ : ByteArray), D] : List ByteArray).length → (nthS [(⟨#[101, 120, 116, 114, 101, 109, 97, 108, 32, 102, 114, 101, 101]⟩ : ByteArray), A, (⟨#[115, 117, 109, 102, 114, 101, 101]⟩ : ByteArray), B, (⟨#[115, 105, 100, 111, 110]⟩ : ByteArray), C, (⟨#[97, 112, 102, 114, 101, 101]⟩ : ByteArray), D] i).size ≤ 5000 := by
    intro i hi
    match i, hi with
    | 0, _ => exact (by decide : ((⟨#[101, 120, 116, 114, 101, 109, 97, 108, 32, 102, 114, 101, 101]⟩ : ByteArray) : ByteArray).size ≤ 5000)
    | 1, _ => exact Nat.le_trans sA (by decide)
    | 2, _ => exact (by decide : ((⟨#[115, 117, 109, 102, 114, 101, 101]⟩ : ByteArray) : ByteArray).size ≤ 5000)
    | 3, _ => exact Nat.le_trans sB (by decide)
    | 4, _ => exact (by decide : ((⟨#[115, 105, 100, 111, 110]⟩ : ByteArray) : ByteArray).size ≤ 5000)
    | 5, _ => exact Nat.le_trans sC (by decide)
    | 6, _ => exact (by decide : ((⟨#[97, 112, 102, 114, 101, 101]⟩ : ByteArray) : ByteArray).size ≤ 5000)
    | 7, _ => exact Nat.le_trans sD (by decide)
  obtain ⟨X, hX⟩ : ∃ x, x = lineF [(⟨#[101, 120, 116, 114, 101, 109, 97, 108, 32, 102, 114, 101, 101]⟩ : ByteArray), A, (⟨#[115, 117, 109, 102, 114, 101, 101]⟩ : ByteArray), B, (⟨#[115, 105, 100, 111, 110]⟩ : ByteArray), C, (⟨#[97, 112, 102, 114, 101, 101]⟩ : ByteArray), D] := ⟨_, rfl⟩
  have hcL : ∀ (W : World), Calls Try.prog 98 #[.slice (some ⟨W.heap.size, 0, none⟩) 8 8] (W.alloc (.cells #[.string (⟨#[101, 120, 116, 114, 101, 109, 97, 108, 32, 102, 114, 101, 101]⟩ : ByteArray), .string A, .string (⟨#[115, 117, 109, 102, 114, 101, 101]⟩ : ByteArray), .string B, .string (⟨#[115, 105, 100, 111, 110]⟩ : ByteArray), .string C, .string (⟨#[97, 112, 102, 114, 101, 101]⟩ : ByteArray), .string D] 9)) fun e w' => e = .returned (.string X) ∧ Ext (W.alloc (.cells #[.string (⟨#[101, 120, 116, 114, 101, 109, 97, 108, 32, 102, 114, 101, 101]⟩ : ByteArray), .string A, .string (⟨#[115, 117, 109, 102, 114, 101, 101]⟩ : ByteArray), .string B, .string (⟨#[115, 105, 100, 111, 110]⟩ : ByteArray), .string C, .string (⟨#[97, 112, 102, 114, 101, 101]⟩ : ByteArray), .string D] 9)) w' := fun W =>
    (line_any _ _ _ (strs_lit W [(⟨#[101, 120, 116, 114, 101, 109, 97, 108, 32, 102, 114, 101, 101]⟩ : ByteArray), A, (⟨#[115, 117, 109, 102, 114, 101, 101]⟩ : ByteArray), B, (⟨#[115, 105, 100, 111, 110]⟩ : ByteArray), C, (⟨#[97, 112, 102, 114, 101, 101]⟩ : ByteArray), D] 9 (by simp)) hln (by simp)).mono fun e w' ⟨h1, h2⟩ => ⟨by rw [h1, hX], by rw [← h2]; exact Ext.refl _⟩
  have Hfin : Hid (elF l = X) := Lib.hid (by rw [hX, Hs.out]; exact (el_line A B C D).symm)
  clear hln hX
  clear hA hBd hC hD h2 h3 h4 hB hgr
  go_enter Try.func16, Try.ntmps16
  go_wp2_with fail
  rw [← Hwb.out]
  refine cG.mono ?_
  rintro e w1 ⟨rfl, hE1⟩
  have hb1 := hb w1 hE1
  go_wp2_with (go_at_call 114; refine (cO _ hE1).mono ?_; rintro e w2 ⟨rfl, hE2⟩; have hE12 := hE1.trans hE2; have hb2 := hb w2 hE12)
  refine (c1 _ hE12).mono ?_
  rintro e w3 ⟨aoZ, cZ, rfl, hIZ, hE3⟩
  have hE13 := hE12.trans hE3
  have hb3 := hb w3 hE13
  go_wp2_with fail
  refine (c2 _ hE13).mono ?_
  rintro e w4 ⟨rfl, hE4⟩
  have hE14 := hE13.trans hE4
  have hb4 := hb w4 hE14
  go_wp2_with fail
  refine (c3 _ hE14).mono ?_
  rintro e w5 ⟨rfl, hE5⟩
  have hE15 := hE14.trans hE5
  have hb5 := hb w5 hE15
  go_wp2_with fail
  refine (c4 _ hE15).mono ?_
  rintro e w6 ⟨rfl, hE6⟩
  have hE16 := hE15.trans hE6
  have hIZ6 := hIZ.ext (hE4.trans (hE5.trans hE6))
  have kb := fun W (hW : Ext w6 W) => hb W (hE16.trans hW)
  have hD := (Ext.refl w6).drew
  have hE := Ext.refl w6
  go_wp2_with fail
  first | (go_region_held3 (fun W => Ext w6 W ∧ W.cell? ⟨w.heap.size, 0, none⟩ = some v) (exact ⟨(by repeat (first | assumption | exact Ext.refl _ | (apply And.left; assumption) | apply Ext.drew | apply Ext.alloc)), kb _ (by repeat (first | assumption | exact Ext.refl _ | (apply And.left; assumption) | apply Ext.drew | apply Ext.alloc))⟩) (first | (go_at_call 119; ((with_reducible refine Calls.mono (cA _ _ (hE16.trans (by repeat (first | assumption | exact Ext.refl _ | (apply And.left; assumption) | apply Ext.drew | apply Ext.alloc))) (hIZ6.ext (by repeat (first | assumption | exact Ext.refl _ | (apply And.left; assumption) | apply Ext.drew | apply Ext.alloc)))) ?_); rintro e wH ⟨rfl, hX⟩; have hH := Ext.trans (a := w6) (by repeat (first | assumption | exact Ext.refl _ | (apply And.left; assumption) | apply Ext.drew | apply Ext.alloc)) hX)) | (go_at_call 120; ((first | (with_reducible refine Calls.mono (cB _ (hE16.trans (by repeat (first | assumption | exact Ext.refl _ | (apply And.left; assumption) | apply Ext.drew | apply Ext.alloc)))) ?_) | (with_reducible refine Calls.mono (cC _ (hE16.trans (by repeat (first | assumption | exact Ext.refl _ | (apply And.left; assumption) | apply Ext.drew | apply Ext.alloc)))) ?_) | (with_reducible refine Calls.mono (cD _ (hE16.trans (by repeat (first | assumption | exact Ext.refl _ | (apply And.left; assumption) | apply Ext.drew | apply Ext.alloc)))) ?_)); rintro e wH ⟨rfl, hX⟩; have hH := Ext.trans (a := w6) (by repeat (first | assumption | exact Ext.refl _ | (apply And.left; assumption) | apply Ext.drew | apply Ext.alloc)) hX)) | (go_at_call 98; ((with_reducible refine Calls.mono (hcL _) ?_); rintro e wL ⟨rfl, hX⟩; have hHL := Ext.trans (a := w6) (by repeat (first | assumption | exact Ext.refl _ | (apply And.left; assumption) | apply Ext.drew | apply Ext.alloc)) hX)))) | (fail "the region")
  all_goals
    go_wp2_with fail
    go_ret
    exact ⟨ret_str Hfin.out.symm, hE0.trans (hE16.trans hHL)⟩
end Go.Zz
