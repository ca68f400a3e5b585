/- PairLine of the program and of the reference. -/
import Derived.Test.YtlegcppncdiijaaC83
import Derived.Test.YtlegcppncdiijaaC82
import Derived.Test.YtlegcppncdiijaaC62
import Derived.Deep.RegionHeld3
namespace Go.Zz
open Go.RowKit Go.Proofs
set_option maxHeartbeats 2000000
set_option maxRecDepth 8000

theorem numF_size {l : List Int} (h : ∀ i, i < l.length → -1 ≤ nth l i ∧ nth l i < 1000000000000) (hl : l.length ≤ 40) : (numF l).size ≤ 560 := by
  unfold numF
  split
  · decide
  · have := jn_size comma (fun i => fmtB (nth l i)) (by decide) l.length fun i hi => fmtB_size (h i hi)
    omega
theorem fsF_size (l : List Int) (a : Int) : (fsF l a).size ≤ 600 := by
  cases h : isSetB l a
  · rw [fsF_no h]; decide
  · obtain ⟨n, rfl, -, hn, -⟩ := isSetB_nat h
    rw [fsF_nat h]
    have := numF_size (l := castL (elems n)) (elems_in n) (by rw [castL_len]; have := elems_len n; omega)
    omega
theorem kcF_size (l : List Int) (a b : Int) : (kcF l a b).size ≤ 20 := by
  unfold kcF
  (repeat' split) <;> decide
def plF (l : List Int) (a b : Int) : ByteArray :=
  if fullB l a b then
    (fun (A B C D E : ByteArray) (dr tl : Bool) => ((((((((((((⟨#[112, 97, 105, 114, 32, 115, 117, 109, 32]⟩ : ByteArray) ++ A) ++ (⟨#[32, 115, 105, 122, 101, 32]⟩ : ByteArray)) ++ B) ++ (⟨#[32, 98, 111, 117, 110, 100, 32]⟩ : ByteArray)) ++ C) ++ (⟨#[32, 99, 97, 115, 101, 32]⟩ : ByteArray)) ++ D) ++ (⟨#[32, 101, 110, 101, 114, 103, 121, 32]⟩ : ByteArray)) ++ E) ++ (if dr then (⟨#[32, 100, 105, 114, 101, 99, 116]⟩ : ByteArray) else ⟨#[]⟩)) ++ (if tl then (⟨#[32, 116, 105, 108, 105, 110, 103]⟩ : ByteArray) else ⟨#[]⟩))) (fsF l (sumF l a.toNat b.toNat : Nat)) (fmtB (cnt (sumF l a.toNat b.toNat) : Int)) (fmtB (knI l a b)) (kcF l a b) (fmtB (enF l a b)) (drF l a b) (tilF l a b)
  else ⟨#[]⟩
theorem pl_no {l : List Int} {a b : Int} (h : fullB l a b = false) : plF l a b = ⟨#[]⟩ := by unfold plF; rw [h]; rfl
theorem pl_yes {l : List Int} {a b : Nat} (h : fullB l a b = true) : plF l a b = (fun (A B C D E : ByteArray) (dr tl : Bool) => ((((((((((((⟨#[112, 97, 105, 114, 32, 115, 117, 109, 32]⟩ : ByteArray) ++ A) ++ (⟨#[32, 115, 105, 122, 101, 32]⟩ : ByteArray)) ++ B) ++ (⟨#[32, 98, 111, 117, 110, 100, 32]⟩ : ByteArray)) ++ C) ++ (⟨#[32, 99, 97, 115, 101, 32]⟩ : ByteArray)) ++ D) ++ (⟨#[32, 101, 110, 101, 114, 103, 121, 32]⟩ : ByteArray)) ++ E) ++ (if dr then (⟨#[32, 100, 105, 114, 101, 99, 116]⟩ : ByteArray) else ⟨#[]⟩)) ++ (if tl then (⟨#[32, 116, 105, 108, 105, 110, 103]⟩ : ByteArray) else ⟨#[]⟩))) (fsF l (sumF l a b : Nat)) (fmtB (cnt (sumF l a b) : Int)) (fmtB (knI l a b)) (kcF l a b) (fmtB (enF l a b)) (drF l a b) (tilF l a b) := by
  unfold plF; rw [if_pos h]; rfl
theorem pl_line (A B C D E : ByteArray) (dr tl : Bool) : (if tl then lineF [(if dr then lineF [lineF [(⟨#[112, 97, 105, 114, 32, 115, 117, 109]⟩ : ByteArray), A, (⟨#[115, 105, 122, 101]⟩ : ByteArray), B, (⟨#[98, 111, 117, 110, 100]⟩ : ByteArray), C, (⟨#[99, 97, 115, 101]⟩ : ByteArray), D, (⟨#[101, 110, 101, 114, 103, 121]⟩ : ByteArray), E], (⟨#[100, 105, 114, 101, 99, 116]⟩ : ByteArray)] else lineF [(⟨#[112, 97, 105, 114, 32, 115, 117, 109]⟩ : ByteArray), A, (⟨#[115, 105, 122, 101]⟩ : ByteArray), B, (⟨#[98, 111, 117, 110, 100]⟩ : ByteArray), C, (⟨#[99, 97, 115, 101]⟩ : ByteArray), D, (⟨#[101, 110, 101, 114, 103, 121]⟩ : ByteArray), E]), (⟨#[116, 105, 108, 105, 110, 103]⟩ : ByteArray)] else (if dr then lineF [lineF [(⟨#[112, 97, 105, 114, 32, 115, 117, 109]⟩ : ByteArray), A, (⟨#[115, 105, 122, 101]⟩ : ByteArray), B, (⟨#[98, 111, 117, 110, 100]⟩ : ByteArray), C, (⟨#[99, 97, 115, 101]⟩ : ByteArray), D, (⟨#[101, 110, 101, 114, 103, 121]⟩ : ByteArray), E], (⟨#[100, 105, 114, 101, 99, 116]⟩ : ByteArray)] else lineF [(⟨#[112, 97, 105, 114, 32, 115, 117, 109]⟩ : ByteArray), A, (⟨#[115, 105, 122, 101]⟩ : ByteArray), B, (⟨#[98, 111, 117, 110, 100]⟩ : ByteArray), C, (⟨#[99, 97, 115, 101]⟩ : ByteArray), D, (⟨#[101, 110, 101, 114, 103, 121]⟩ : ByteArray), E])) = ((((((((((((⟨#[112, 97, 105, 114, 32, 115, 117, 109, 32]⟩ : ByteArray) ++ A) ++ (⟨#[32, 115, 105, 122, 101, 32]⟩ : ByteArray)) ++ B) ++ (⟨#[32, 98, 111, 117, 110, 100, 32]⟩ : ByteArray)) ++ C) ++ (⟨#[32, 99, 97, 115, 101, 32]⟩ : ByteArray)) ++ D) ++ (⟨#[32, 101, 110, 101, 114, 103, 121, 32]⟩ : ByteArray)) ++ E) ++ (if dr then (⟨#[32, 100, 105, 114, 101, 99, 116]⟩ : ByteArray) else ⟨#[]⟩)) ++ (if tl then (⟨#[32, 116, 105, 108, 105, 110, 103]⟩ : ByteArray) else ⟨#[]⟩)) := by
  apply bytes_ext
  cases dr <;> cases tl <;> simp [lineF, jn, nthS, spB, List.getD]
theorem sPairLine_any (v : Value) (l : List Int) (a b : Int) (w : World) (h : Ints w v l) :
    Calls Try.prog 10 #[.agg #[v], .int .i64 a, .int .i64 b] w fun e w' => e = .returned (.string (plF l a b)) ∧ Ext w w' := by
  obtain ⟨wb, hwb⟩ : ∃ wb, wb = w.alloc (.cells #[v] 27) := ⟨_, rfl⟩
  have hE0 := (Ext.refl w).alloc (.cells #[v] 27)
  have hb := box_cell w v 27
  rw [← hwb] at hE0 hb
  have hg : ∀ W, Ext wb W → Ints W v l := fun W hW => h.ext (hE0.trans hW)
  have hE := Ext.refl wb
  have Hsz : Hid (w.heap.size + 1 = wb.heap.size) := Lib.hid (by rw [hwb]; simp [go_sem])
  have Hwb := Lib.hid hwb
  clear hwb h
  cases hf : fullB l a b
  · have Hs := Lib.hid (pl_no hf)
    have hk1 := knI_no hf
    go_enter Try.func10, Try.ntmps10
    go_wp2_with fail
    rw [← Hwb.out]
    refine (sKneserBound_any _ _ _ _ _ (hg _ hE)).mono ?_
    rw [hk1]
    rintro e w' ⟨rfl, hE'⟩
    replace hE := hE.trans hE'
    go_wp2_with fail
    go_ret
    exact ⟨ret_str Hs.out.symm, hE0.trans hE⟩
  have hf' := hf
  obtain ⟨m, n, rfl, rfl, h3, h4, a1, a2, ha, hb', hgr, -, -⟩ := fullB_nat hf
  have Hgr := Lib.hid hgr
  have hob := ord_bd hgr
  have hss := sumF_bd hgr m n
  have hcs := cnt_le (sumF l m n)
  have hk0 : 0 ≤ knI l m n ∧ knI l m n ≤ 48 := by
    rw [knI_yes hf']
    have h5 := knF_pos (b := n) hgr h3 a1
    have h6 := cnt_le (sumF l m (stabF l (sumF l m n)))
    have h7 := cnt_le (sumF l n (stabF l (sumF l m n)))
    refine ⟨h5, ?_⟩; unfold knF; omega
  have hen : 0 ≤ enF l m n ∧ enF l m n ≤ 7962624 := by
    rw [enF_yes (by have := hf'; unfold fullB at this; simp only [Bool.and_eq_true] at this; rw [this.1.1.1, this.1.1.2]; rfl)]
    have := sqTo_bd hgr m n (ord l); omega
  have sA := fsF_size l (sumF l m n : Nat)
  have sD := kcF_size l m n
  have cA := fun W (hW : Ext wb W) => sFormatSet_any v l (sumF l m n : Nat) W (hg W hW)
  have cB := fun W => sFormatInt_any (cnt (sumF l m n) : Int) (by omega) W
  have cC := fun W => sFormatInt_any (knI l m n) (by omega) W
  have cE := fun W => sFormatInt_any (enF l m n) (by omega) W
  have cD := fun W (hW : Ext wb W) => sKempermanCase_any v l m n W (hg W hW)
  have cK := fun W (hW : Ext wb W) => sKneserBound_any v l m n W (hg W hW)
  have cN := fun W (hW : Ext wb W) => sEnergyOf_any v l m n W (hg W hW)
  have cR := fun W (hW : Ext wb W) => sIsDirect_any v l m n W (hg W hW)
  have cT := fun W (hW : Ext wb W) => sIsTiling_any v l m n W (hg W hW)
  have cS := fun W => l3Bits_any (sumF l m n) hss W
  have sB := fmtB_size (n := (cnt (sumF l m n) : Int)) (by omega)
  have sC := fmtB_size (n := knI l m n) (by omega)
  have sE := fmtB_size (n := enF l m n) (by omega)
  have Hv := Lib.hid (pl_yes hf')
  obtain ⟨A, hA⟩ : ∃ x, x = fsF l (sumF l m n : Nat) := ⟨_, rfl⟩
  obtain ⟨B, hB⟩ : ∃ x, x = fmtB (cnt (sumF l m n) : Int) := ⟨_, rfl⟩
  obtain ⟨C, hC⟩ : ∃ x, x = fmtB (knI l m n) := ⟨_, rfl⟩
  obtain ⟨D, hD⟩ : ∃ x, x = kcF l m n := ⟨_, rfl⟩
  obtain ⟨E, hE'⟩ : ∃ x, x = fmtB (enF l m n) := ⟨_, rfl⟩
  obtain ⟨dr, hdr⟩ : ∃ x, x = drF l m n := ⟨_, rfl⟩
  obtain ⟨tl, htl⟩ : ∃ x, x = tilF l m n := ⟨_, rfl⟩
  rw [← hA] at cA sA Hv
  rw [← hB] at cB sB Hv
  rw [← hC] at cC sC Hv
  rw [← hD] at cD sD Hv
  rw [← hE'] at cE sE Hv
  rw [← hdr] at cR Hv
  rw [← htl] at cT Hv
  obtain ⟨kn, hkn⟩ : ∃ x, x = knI l m n := ⟨_, rfl⟩
  obtain ⟨en, hen'⟩ : ∃ x, x = enF l m n := ⟨_, rfl⟩
  obtain ⟨cs, hcs'⟩ : ∃ x : Int, x = (cnt (sumF l m n) : Int) := ⟨_, rfl⟩
  rw [← hkn] at cK cC hk0
  rw [← hen'] at cN cE hen
  rw [← hcs'] at cB cS
  clear hA hB hC hD hE' hdr htl hkn hen' hcs' hcs hf
  have kb := fun U => hb _ (lat_ext wb U)
  clear hgr
  go_enter Try.func10, Try.ntmps10
  go_wp2_with fail
  rw [← Hwb.out]
  go_wp2_with (first | (go_at_call 92; refine (cK _ hE).mono ?_; rintro e w' ⟨rfl, hE'⟩; replace hE := hE.trans hE'; clear hE') | (go_at_call 93; refine (l4Sum_any _ _ _ _ _ (hg _ hE) (Hgr) (ha) (hb')).mono ?_; rintro e w' ⟨rfl, hE'⟩; replace hE := hE.trans hE'; clear hE'))
  have xe1 : (if dr then (⟨#[32, 100, 105, 114, 101, 99, 116]⟩ : ByteArray) else (⟨#[]⟩ : ByteArray)).size ≤ 20 := by cases dr <;> decide
  have xe2 : (if tl then (⟨#[32, 116, 105, 108, 105, 110, 103]⟩ : ByteArray) else (⟨#[]⟩ : ByteArray)).size ≤ 20 := by cases tl <;> decide
  have cY1 := fun W => yes_any dr (⟨#[32, 100, 105, 114, 101, 99, 116]⟩ : ByteArray) W
  have cY2 := fun W => yes_any tl (⟨#[32, 116, 105, 108, 105, 110, 103]⟩ : ByteArray) W
  obtain ⟨y1, hy1⟩ : ∃ x, x = (if dr then (⟨#[32, 100, 105, 114, 101, 99, 116]⟩ : ByteArray) else (⟨#[]⟩ : ByteArray)) := ⟨_, rfl⟩
  obtain ⟨y2, hy2⟩ : ∃ x, x = (if tl then (⟨#[32, 116, 105, 108, 105, 110, 103]⟩ : ByteArray) else (⟨#[]⟩ : ByteArray)) := ⟨_, rfl⟩
  rw [← hy1] at cY1 xe1
  rw [← hy2] at cY2 xe2
  have Hy1 := Lib.hid hy1
  have Hy2 := Lib.hid hy2
  clear hy1 hy2
  (refine wp_region_lat (wb) (by kernel_rfl) (by kernel_rfl) hE ?_); (repeat (go_big_quiet_step (first | (go_at_call 94; with_reducible exact Calls.lat (cA _ (lat_ext wb _))) | (go_at_call 95; first | with_reducible exact Calls.lat (cB _) | with_reducible exact Calls.lat (cC _) | with_reducible exact Calls.lat (cE _)) | (go_at_call 96; with_reducible exact Calls.lat_same (cS _)) | (go_at_call 92; with_reducible exact Calls.lat (cK _ (lat_ext wb _))) | (go_at_call 97; with_reducible exact Calls.lat (cD _ (lat_ext wb _))) | (go_at_call 30; with_reducible exact Calls.lat (cN _ (lat_ext wb _))) | (go_at_call 99; with_reducible exact Calls.lat (cR _ (lat_ext wb _))) | (go_at_call 100; with_reducible exact Calls.lat (cT _ (lat_ext wb _))) | (go_at_call 98; first | with_reducible exact Calls.lat_same (cY1 _) | with_reducible exact Calls.lat_same (cY2 _))))); (refine wpQuiet_nil ?_); (intro W hE'); (replace hE := lat_of hE'); (clear hE')
  go_wp2_with fail
  go_ret
  exact ⟨ret_str (by rw [Hv.out, Hy1.out, Hy2.out]), hE0.trans hE⟩
theorem PairLine_any (v : Value) (l : List Int) (a b : Int) (w : World) (h : Ints w v l) :
    Calls Try.prog 12 #[.agg #[v], .int .i64 a, .int .i64 b] w fun e w' => e = .returned (.string (plF l a b)) ∧ Ext w w' := by
  obtain ⟨wb, hwb⟩ : ∃ wb, wb = w.alloc (.cells #[v] 27) := ⟨_, rfl⟩
  have hE0 := (Ext.refl w).alloc (.cells #[v] 27)
  have hb := box_cell w v 27
  rw [← hwb] at hE0 hb
  have hg : ∀ W, Ext wb W → Ints W v l := fun W hW => h.ext (hE0.trans hW)
  have hE := Ext.refl wb
  have Hsz : Hid (w.heap.size + 1 = wb.heap.size) := Lib.hid (by rw [hwb]; simp [go_sem])
  have Hwb := Lib.hid hwb
  clear hwb h
  cases hf : fullB l a b
  · have Hs := Lib.hid (pl_no hf)
    go_enter Try.func12, Try.ntmps12
    go_wp2_with fail
    rw [← Hwb.out]
    go_wp2_with (first | (go_at_call 102; refine (areFull_val _ _ _ _ _ (hg _ hE) hf).mono ?_; rintro e w' ⟨rfl, hE'⟩; replace hE := hE.trans hE'; clear hE'))
    go_ret
    exact ⟨ret_str Hs.out.symm, hE0.trans hE⟩
  have hf' := hf
  obtain ⟨m, n, rfl, rfl, h3, h4, a1, a2, ha, hb', hgr, -, -⟩ := fullB_nat hf
  have Hgr := Lib.hid hgr
  have hob := ord_bd hgr
  have hss := sumF_bd hgr m n
  have hcs := cnt_le (sumF l m n)
  have hk0 : 0 ≤ knI l m n ∧ knI l m n ≤ 48 := by
    rw [knI_yes hf']
    have h5 := knF_pos (b := n) hgr h3 a1
    have h6 := cnt_le (sumF l m (stabF l (sumF l m n)))
    have h7 := cnt_le (sumF l n (stabF l (sumF l m n)))
    refine ⟨h5, ?_⟩; unfold knF; omega
  have hen : 0 ≤ enF l m n ∧ enF l m n ≤ 7962624 := by
    rw [enF_yes (by have := hf'; unfold fullB at this; simp only [Bool.and_eq_true] at this; rw [this.1.1.1, this.1.1.2]; rfl)]
    have := sqTo_bd hgr m n (ord l); omega
  have sA := fsF_size l (sumF l m n : Nat)
  have sD := kcF_size l m n
  have cA := fun W (hW : Ext wb W) => FormatSet_any v l (sumF l m n : Nat) W (hg W hW)
  have cB := fun W => FormatInt_any (cnt (sumF l m n) : Int) (by omega) W
  have cC := fun W => FormatInt_any (knI l m n) (by omega) W
  have cE := fun W => FormatInt_any (enF l m n) (by omega) W
  have cD := fun W (hW : Ext wb W) => KempermanCase_any v l m n W (hg W hW)
  have cK := fun W (hW : Ext wb W) => KneserBound_any v l m n W (hg W hW)
  have cN := fun W (hW : Ext wb W) => EnergyOf_any v l m n W (hg W hW)
  have cR := fun W (hW : Ext wb W) => IsDirect_any v l m n W (hg W hW)
  have cT := fun W (hW : Ext wb W) => IsTiling_any v l m n W (hg W hW)
  have cS := fun W => bits_any (sumF l m n) hss W
  have sB := fmtB_size (n := (cnt (sumF l m n) : Int)) (by omega)
  have sC := fmtB_size (n := knI l m n) (by omega)
  have sE := fmtB_size (n := enF l m n) (by omega)
  have Hv := Lib.hid (pl_yes hf')
  obtain ⟨A, hA⟩ : ∃ x, x = fsF l (sumF l m n : Nat) := ⟨_, rfl⟩
  obtain ⟨B, hB⟩ : ∃ x, x = fmtB (cnt (sumF l m n) : Int) := ⟨_, rfl⟩
  obtain ⟨C, hC⟩ : ∃ x, x = fmtB (knI l m n) := ⟨_, rfl⟩
  obtain ⟨D, hD⟩ : ∃ x, x = kcF l m n := ⟨_, rfl⟩
  obtain ⟨E, hE'⟩ : ∃ x, x = fmtB (enF l m n) := ⟨_, rfl⟩
  obtain ⟨dr, hdr⟩ : ∃ x, x = drF l m n := ⟨_, rfl⟩
  obtain ⟨tl, htl⟩ : ∃ x, x = tilF l m n := ⟨_, rfl⟩
  rw [← hA] at cA sA Hv
  rw [← hB] at cB sB Hv
  rw [← hC] at cC sC Hv
  rw [← hD] at cD sD Hv
  rw [← hE'] at cE sE Hv
  rw [← hdr] at cR Hv
  rw [← htl] at cT Hv
  obtain ⟨kn, hkn⟩ : ∃ x, x = knI l m n := ⟨_, rfl⟩
  obtain ⟨en, hen'⟩ : ∃ x, x = enF l m n := ⟨_, rfl⟩
  obtain ⟨cs, hcs'⟩ : ∃ x : Int, x = (cnt (sumF l m n) : Int) := ⟨_, rfl⟩
  rw [← hkn] at cK cC hk0
  rw [← hen'] at cN cE hen
  rw [← hcs'] at cB cS
  clear hA hB hC hD hE' hdr htl hkn hen' hcs' hcs hf
  have hln : ∀ i, i < ([(⟨#[112, 97, 105, 114, 32, 115, 117, 109]⟩ : ByteArray), A, (⟨#[115, 105, 122, 101]⟩ : ByteArray), B, (⟨#[98, 111, 117, 110, 100]⟩ : ByteArray), C, (⟨#[99, 97, 115, 101]⟩ : ByteArray), D, (⟨#[101, 110, 101, 114, 103, 121]⟩ : ByteArray), E] : List ByteArray).length → (nthS [(⟨#[112, 97, 105, 114, 32, 115, 117, 109]⟩ : ByteArray), A, (⟨#[115, 105, 122, 101]⟩ : ByteArray), B, (⟨#[98, 111, 117, 110, 100]⟩ : ByteArray), C, (⟨#[99, 97, 115, 101]⟩ : ByteArray), D, (⟨#[101, 110, 101, 114, 103, 121]⟩ : ByteArray), E] i).size ≤ 5000 := by
    intro i hi
    match i, hi with
    | 0, _ => exact (by decide : (⟨#[112, 97, 105, 114, 32, 115, 117, 109]⟩ : ByteArray).size ≤ 5000)
    | 1, _ => exact Nat.le_trans sA (by decide)
    | 2, _ => exact (by decide : (⟨#[115, 105, 122, 101]⟩ : ByteArray).size ≤ 5000)
    | 3, _ => exact Nat.le_trans sB (by decide)
    | 4, _ => exact (by decide : (⟨#[98, 111, 117, 110, 100]⟩ : ByteArray).size ≤ 5000)
    | 5, _ => exact Nat.le_trans sC (by decide)
    | 6, _ => exact (by decide : (⟨#[99, 97, 115, 101]⟩ : ByteArray).size ≤ 5000)
    | 7, _ => exact Nat.le_trans sD (by decide)
    | 8, _ => exact (by decide : (⟨#[101, 110, 101, 114, 103, 121]⟩ : ByteArray).size ≤ 5000)
    | 9, _ => exact Nat.le_trans sE (by decide)
  have hsz0 : (lineF [(⟨#[112, 97, 105, 114, 32, 115, 117, 109]⟩ : ByteArray), A, (⟨#[115, 105, 122, 101]⟩ : ByteArray), B, (⟨#[98, 111, 117, 110, 100]⟩ : ByteArray), C, (⟨#[99, 97, 115, 101]⟩ : ByteArray), D, (⟨#[101, 110, 101, 114, 103, 121]⟩ : ByteArray), E]).size ≤ 800 := by
    simp only [lineF, jn, nthS, spB, List.getD, List.length_cons, List.length_nil, ByteArray.size_append]
    simp [ByteArray.size_append]
    have q0 : (⟨#[]⟩ : ByteArray).size = 0 := rfl
    have q1 : (⟨#[32]⟩ : ByteArray).size = 1 := rfl
    have q2 : (⟨#[112, 97, 105, 114, 32, 115, 117, 109]⟩ : ByteArray).size = 8 := rfl
    have q3 : (⟨#[115, 105, 122, 101]⟩ : ByteArray).size = 4 := rfl
    have q4 : (⟨#[98, 111, 117, 110, 100]⟩ : ByteArray).size = 5 := rfl
    have q5 : (⟨#[99, 97, 115, 101]⟩ : ByteArray).size = 4 := rfl
    have q6 : (⟨#[101, 110, 101, 114, 103, 121]⟩ : ByteArray).size = 6 := rfl
    omega
  obtain ⟨X, hX⟩ : ∃ x, x = lineF [(⟨#[112, 97, 105, 114, 32, 115, 117, 109]⟩ : ByteArray), A, (⟨#[115, 105, 122, 101]⟩ : ByteArray), B, (⟨#[98, 111, 117, 110, 100]⟩ : ByteArray), C, (⟨#[99, 97, 115, 101]⟩ : ByteArray), D, (⟨#[101, 110, 101, 114, 103, 121]⟩ : ByteArray), E] := ⟨_, rfl⟩
  have hcL : ∀ (W : World), Calls Try.prog 104 #[.slice (some ⟨W.heap.size, 0, none⟩) 10 10] (W.alloc (.cells #[.string (⟨#[112, 97, 105, 114, 32, 115, 117, 109]⟩ : ByteArray), .string A, .string (⟨#[115, 105, 122, 101]⟩ : ByteArray), .string B, .string (⟨#[98, 111, 117, 110, 100]⟩ : ByteArray), .string C, .string (⟨#[99, 97, 115, 101]⟩ : ByteArray), .string D, .string (⟨#[101, 110, 101, 114, 103, 121]⟩ : ByteArray), .string E] 9)) fun e w' => e = .returned (.string X) ∧ Ext (W.alloc (.cells #[.string (⟨#[112, 97, 105, 114, 32, 115, 117, 109]⟩ : ByteArray), .string A, .string (⟨#[115, 105, 122, 101]⟩ : ByteArray), .string B, .string (⟨#[98, 111, 117, 110, 100]⟩ : ByteArray), .string C, .string (⟨#[99, 97, 115, 101]⟩ : ByteArray), .string D, .string (⟨#[101, 110, 101, 114, 103, 121]⟩ : ByteArray), .string E] 9)) w' := fun W =>
    (line_any _ _ _ (strs_lit W [(⟨#[112, 97, 105, 114, 32, 115, 117, 109]⟩ : ByteArray), A, (⟨#[115, 105, 122, 101]⟩ : ByteArray), B, (⟨#[98, 111, 117, 110, 100]⟩ : ByteArray), C, (⟨#[99, 97, 115, 101]⟩ : ByteArray), D, (⟨#[101, 110, 101, 114, 103, 121]⟩ : ByteArray), E] 9 (by simp)) hln (by simp)).mono fun e w' ⟨h1, h2⟩ => ⟨by rw [h1, hX], by rw [← h2]; exact Ext.refl _⟩
  have hsz1 : (if dr then lineF [X, (⟨#[100, 105, 114, 101, 99, 116]⟩ : ByteArray)] else X).size ≤ 900 := by
    rw [← hX] at hsz0
    cases dr
    · exact Nat.le_trans hsz0 (by decide)
    · have q0 : (⟨#[]⟩ : ByteArray).size = 0 := rfl
      have q1 : (⟨#[32]⟩ : ByteArray).size = 1 := rfl
      have q7 : (⟨#[100, 105, 114, 101, 99, 116]⟩ : ByteArray).size = 6 := rfl
      simp [lineF, jn, nthS, spB, List.getD, ByteArray.size_append]; omega
  obtain ⟨X1, hX1⟩ : ∃ x, x = (if dr then lineF [X, (⟨#[100, 105, 114, 101, 99, 116]⟩ : ByteArray)] else X) := ⟨_, rfl⟩
  obtain ⟨X2, hX2⟩ : ∃ x, x = (if tl then lineF [X1, (⟨#[116, 105, 108, 105, 110, 103]⟩ : ByteArray)] else X1) := ⟨_, rfl⟩
  have hcI1 : ∀ (W : World), Calls Try.prog 111 #[.string X, .bool dr, .slice (some ⟨W.heap.size, 0, none⟩) 1 1] (W.alloc (.cells #[.string (⟨#[100, 105, 114, 101, 99, 116]⟩ : ByteArray)] 9)) fun e w' => e = .returned (.string X1) ∧ Ext (W.alloc (.cells #[.string (⟨#[100, 105, 114, 101, 99, 116]⟩ : ByteArray)] 9)) w' := fun W => by
    rw [hX1]
    exact ifSo_any X dr _ [(⟨#[100, 105, 114, 101, 99, 116]⟩ : ByteArray)] _ (strs_lit W [(⟨#[100, 105, 114, 101, 99, 116]⟩ : ByteArray)] 9 (by simp)) (by rw [hX]; omega) (fun i hi => by match i, hi with | 0, _ => decide) (by simp) (by simp)
  have hcI2 : ∀ (W : World), Calls Try.prog 111 #[.string X1, .bool tl, .slice (some ⟨W.heap.size, 0, none⟩) 1 1] (W.alloc (.cells #[.string (⟨#[116, 105, 108, 105, 110, 103]⟩ : ByteArray)] 9)) fun e w' => e = .returned (.string X2) ∧ Ext (W.alloc (.cells #[.string (⟨#[116, 105, 108, 105, 110, 103]⟩ : ByteArray)] 9)) w' := fun W => by
    rw [hX2]
    exact ifSo_any X1 tl _ [(⟨#[116, 105, 108, 105, 110, 103]⟩ : ByteArray)] _ (strs_lit W [(⟨#[116, 105, 108, 105, 110, 103]⟩ : ByteArray)] 9 (by simp)) (by rw [hX1]; omega) (fun i hi => by match i, hi with | 0, _ => decide) (by simp) (by simp)
  have Hfin : Hid (plF l m n = X2) := Lib.hid (by rw [hX2, hX1, hX, Hv.out]; exact (pl_line A B C D E dr tl).symm)
  clear hln hsz0 hX hsz1 hX1 hX2 hgr
  go_enter Try.func12, Try.ntmps12
  go_wp2_with fail
  rw [← Hwb.out]
  refine (areFull_val _ _ _ _ _ (hg _ hE) hf').mono ?_
  rintro e w1 ⟨rfl, hE'⟩
  replace hE := hE.trans hE'
  clear hE'
  go_wp2_with fail
  refine (sum_any _ _ _ _ _ (hg _ hE) Hgr ha hb').mono ?_
  rintro e w2 ⟨rfl, hE'⟩
  replace hE := hE.trans hE'
  clear hE'
  have kb := fun W (hW : Ext w2 W) => hb W (hE.trans hW)
  go_wp2_with fail
  have hD := (Ext.refl w2).drew
  first | (go_region_held3 (fun W => Ext w2 W ∧ W.cell? ⟨w.heap.size, 0, none⟩ = some v) (exact ⟨(by repeat (first | assumption | exact Ext.refl _ | (apply And.left; assumption) | apply Ext.drew | apply Ext.alloc)), kb _ (by repeat (first | assumption | exact Ext.refl _ | (apply And.left; assumption) | apply Ext.drew | apply Ext.alloc))⟩) (first | (go_at_call 105; ((with_reducible refine Calls.mono (cA _ (hE.trans (by repeat (first | assumption | exact Ext.refl _ | (apply And.left; assumption) | apply Ext.drew | apply Ext.alloc)))) ?_); rintro e wH ⟨rfl, hX⟩; have hH := Ext.trans (a := w2) (by repeat (first | assumption | exact Ext.refl _ | (apply And.left; assumption) | apply Ext.drew | apply Ext.alloc)) hX)) | (go_at_call 106; ((first | (with_reducible refine Calls.mono (cB _) ?_) | (with_reducible refine Calls.mono (cC _) ?_) | (with_reducible refine Calls.mono (cE _) ?_)); rintro e wH ⟨rfl, hX⟩; have hH := Ext.trans (a := w2) (by repeat (first | assumption | exact Ext.refl _ | (apply And.left; assumption) | apply Ext.drew | apply Ext.alloc)) hX)) | (go_at_call 107; ((with_reducible refine Calls.mono (cS _) ?_); rintro e wH ⟨rfl, rfl⟩)) | (go_at_call 108; ((with_reducible refine Calls.mono (cK _ (hE.trans (by repeat (first | assumption | exact Ext.refl _ | (apply And.left; assumption) | apply Ext.drew | apply Ext.alloc)))) ?_); rintro e wH ⟨rfl, hX⟩; have hH := Ext.trans (a := w2) (by repeat (first | assumption | exact Ext.refl _ | (apply And.left; assumption) | apply Ext.drew | apply Ext.alloc)) hX)) | (go_at_call 109; ((with_reducible refine Calls.mono (cD _ (hE.trans (by repeat (first | assumption | exact Ext.refl _ | (apply And.left; assumption) | apply Ext.drew | apply Ext.alloc)))) ?_); rintro e wH ⟨rfl, hX⟩; have hH := Ext.trans (a := w2) (by repeat (first | assumption | exact Ext.refl _ | (apply And.left; assumption) | apply Ext.drew | apply Ext.alloc)) hX)) | (go_at_call 110; ((with_reducible refine Calls.mono (cN _ (hE.trans (by repeat (first | assumption | exact Ext.refl _ | (apply And.left; assumption) | apply Ext.drew | apply Ext.alloc)))) ?_); rintro e wH ⟨rfl, hX⟩; have hH := Ext.trans (a := w2) (by repeat (first | assumption | exact Ext.refl _ | (apply And.left; assumption) | apply Ext.drew | apply Ext.alloc)) hX)) | (go_at_call 104; ((with_reducible refine Calls.mono (hcL _) ?_); rintro e wL ⟨rfl, hX⟩; have hHL := Ext.trans (a := w2) (by repeat (first | assumption | exact Ext.refl _ | (apply And.left; assumption) | apply Ext.drew | apply Ext.alloc)) hX)))) | (fail "the region")
  have hEL := hE.trans hHL
  go_wp2_with (first | (go_at_call 53; refine (cR _ hEL).mono ?_; rintro e w5 ⟨rfl, hE5⟩; have hE5b := hEL.trans hE5) | (go_at_call 112; refine (cT _ hE6b).mono ?_; rintro e w7 ⟨rfl, hE7⟩; have hE7b := hE6b.trans hE7) | (go_at_call 111; with_reducible refine Calls.mono (hcI1 _) ?_; rintro e w6 ⟨rfl, hE6⟩; have hE6b := hE5b.trans (Ext.trans ((Ext.refl _).alloc _) hE6)) | (go_at_call 111; with_reducible refine Calls.mono (hcI2 _) ?_; rintro e w8 ⟨rfl, hE8⟩; have hE8b := hE7b.trans (Ext.trans ((Ext.refl _).alloc _) hE8)))
  go_ret
  exact ⟨ret_str Hfin.out.symm, hE0.trans hE8b⟩
end Go.Zz
