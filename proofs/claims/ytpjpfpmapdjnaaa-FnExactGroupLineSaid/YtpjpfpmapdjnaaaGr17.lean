/- GroupLine of the program and of the reference. -/
import Derived.Test.YtpjpfpmapdjnaaaLn
import Derived.Test.YtpjpfpmapdjnaaaGr4
import Derived.Test.YtpjpfpmapdjnaaaGr6
import Derived.Test.YtpjpfpmapdjnaaaGr7
import Derived.Test.YtpjpfpmapdjnaaaGr11
import Derived.Test.YtpjpfpmapdjnaaaGr14
import Derived.Test.YtpjpfpmapdjnaaaLsT
import Derived.Test.YtpjpfpmapdjnaaaGr16
import Derived.Deep.RegionHeld3
namespace Go.Zz
open Go.RowKit Go.Proofs
set_option maxHeartbeats 4000000
set_option maxRecDepth 20000

/-- how many automorphisms, or none are told -/
def caF (l : List Int) : Int := if auB l then (autR l (ord l ^ l.length) : Int) else -1
theorem caF_bd (l : List Int) : -1 ≤ caF l ∧ caF l ≤ 729 := by
  unfold caF
  cases hn : auB l
  · simp
  · have hh : isGrp l = true ∧ ord l ≤ 9 := by unfold auB at hn; simpa using hn
    have := Nat.le_trans (autR_le l _) (pow9 hh.2 (isGrp_len hh.1))
    simp only [if_true]; omega
theorem caF_T (l : List Int) : (if auB l then (autT l l.length [] : Int) else -1) = caF l := by
  unfold caF
  cases hn : auB l
  · rfl
  · have hh : isGrp l = true ∧ ord l ≤ 9 := by unfold auB at hn; simpa using hn
    rw [aut_same hh.1 hh.2]
theorem fgF9_size (l : List Int) : (fgF l).size ≤ 600 := by
  cases h : isGrp l
  · rw [fgF_no h]; decide
  · rw [fgF_yes h]
    have := isGrp_len h
    split
    · decide
    · have := jn_size ex (fun i => fmtB (nth l i)) (by decide) l.length fun i hi => fmtB_size (grp_in h i hi)
      omega
theorem dvEnd_le {l : List Int} (h : isGrp l = true) : dvEnd dvT (natG l) ≤ 73 := by
  have h1 := dvChk_end (dv_chkT h)
  have h2 := (dvSum_le (dvOut dvT (natG l).length (natG l) (natG l).length) (by rw [h1.1]; exact h1.2) (natG l).length (by rw [h1.1]; exact Nat.le_refl _)).2
  have h3 := isGrp_len h
  have h4 : (natG l).length = l.length := by simp [natG]
  unfold dvEnd; omega
def grlF (l : List Int) : ByteArray :=
  if isGrp l then
    (fun (A B C D E F : ByteArray) (b1 b2 : Bool) => ((if b1 then ((((((((((((⟨#[103, 114, 111, 117, 112, 32]⟩ : ByteArray) ++ A) ++ (⟨#[32, 111, 114, 100, 101, 114, 32]⟩ : ByteArray)) ++ B) ++ (⟨#[32, 101, 120, 112, 111, 110, 101, 110, 116, 32]⟩ : ByteArray)) ++ C) ++ (⟨#[32, 115, 117, 98, 103, 114, 111, 117, 112, 115, 32]⟩ : ByteArray)) ++ D) ++ (⟨#[32, 100, 97, 118, 101, 110, 112, 111, 114, 116, 32]⟩ : ByteArray)) ++ E) ++ (⟨#[32, 97, 117, 116, 111, 109, 111, 114, 112, 104, 105, 115, 109, 115, 32]⟩ : ByteArray)) ++ F) else ((((((((((⟨#[103, 114, 111, 117, 112, 32]⟩ : ByteArray) ++ A) ++ (⟨#[32, 111, 114, 100, 101, 114, 32]⟩ : ByteArray)) ++ B) ++ (⟨#[32, 101, 120, 112, 111, 110, 101, 110, 116, 32]⟩ : ByteArray)) ++ C) ++ (⟨#[32, 115, 117, 98, 103, 114, 111, 117, 112, 115, 32]⟩ : ByteArray)) ++ D) ++ (⟨#[32, 100, 97, 118, 101, 110, 112, 111, 114, 116, 32]⟩ : ByteArray)) ++ E)) ++ (if b2 then (⟨#[32, 112, 114, 105, 109, 101]⟩ : ByteArray) else (⟨#[]⟩ : ByteArray)))) (fgF l) (fmtB (ord l : Nat)) (fmtB (expN l : Nat)) (fmtB ((sgL l).length : Nat)) (fmtB (dvEnd dvT (natG l) : Nat)) (fmtB (caF l)) (decide (ord l ≤ 9)) (primeB (ord l))
  else ⟨#[]⟩
theorem grl_no {l : List Int} (h : isGrp l = false) : grlF l = ⟨#[]⟩ := by unfold grlF; rw [h]; rfl
theorem grl_yes {l : List Int} (h : isGrp l = true) : grlF l = (fun (A B C D E F : ByteArray) (b1 b2 : Bool) => ((if b1 then ((((((((((((⟨#[103, 114, 111, 117, 112, 32]⟩ : ByteArray) ++ A) ++ (⟨#[32, 111, 114, 100, 101, 114, 32]⟩ : ByteArray)) ++ B) ++ (⟨#[32, 101, 120, 112, 111, 110, 101, 110, 116, 32]⟩ : ByteArray)) ++ C) ++ (⟨#[32, 115, 117, 98, 103, 114, 111, 117, 112, 115, 32]⟩ : ByteArray)) ++ D) ++ (⟨#[32, 100, 97, 118, 101, 110, 112, 111, 114, 116, 32]⟩ : ByteArray)) ++ E) ++ (⟨#[32, 97, 117, 116, 111, 109, 111, 114, 112, 104, 105, 115, 109, 115, 32]⟩ : ByteArray)) ++ F) else ((((((((((⟨#[103, 114, 111, 117, 112, 32]⟩ : ByteArray) ++ A) ++ (⟨#[32, 111, 114, 100, 101, 114, 32]⟩ : ByteArray)) ++ B) ++ (⟨#[32, 101, 120, 112, 111, 110, 101, 110, 116, 32]⟩ : ByteArray)) ++ C) ++ (⟨#[32, 115, 117, 98, 103, 114, 111, 117, 112, 115, 32]⟩ : ByteArray)) ++ D) ++ (⟨#[32, 100, 97, 118, 101, 110, 112, 111, 114, 116, 32]⟩ : ByteArray)) ++ E)) ++ (if b2 then (⟨#[32, 112, 114, 105, 109, 101]⟩ : ByteArray) else (⟨#[]⟩ : ByteArray)))) (fgF l) (fmtB (ord l : Nat)) (fmtB (expN l : Nat)) (fmtB ((sgL l).length : Nat)) (fmtB (dvEnd dvT (natG l) : Nat)) (fmtB (caF l)) (decide (ord l ≤ 9)) (primeB (ord l)) := by
  unfold grlF; rw [if_pos h]
theorem grl_head (A B C D E : ByteArray) : lineF [(⟨#[103, 114, 111, 117, 112]⟩ : ByteArray), A, (⟨#[111, 114, 100, 101, 114]⟩ : ByteArray), B, (⟨#[101, 120, 112, 111, 110, 101, 110, 116]⟩ : ByteArray), C, (⟨#[115, 117, 98, 103, 114, 111, 117, 112, 115]⟩ : ByteArray), D, (⟨#[100, 97, 118, 101, 110, 112, 111, 114, 116]⟩ : ByteArray), E] = ((((((((((⟨#[103, 114, 111, 117, 112, 32]⟩ : ByteArray) ++ A) ++ (⟨#[32, 111, 114, 100, 101, 114, 32]⟩ : ByteArray)) ++ B) ++ (⟨#[32, 101, 120, 112, 111, 110, 101, 110, 116, 32]⟩ : ByteArray)) ++ C) ++ (⟨#[32, 115, 117, 98, 103, 114, 111, 117, 112, 115, 32]⟩ : ByteArray)) ++ D) ++ (⟨#[32, 100, 97, 118, 101, 110, 112, 111, 114, 116, 32]⟩ : ByteArray)) ++ E) := by
  apply bytes_ext
  simp [lineF, jn, nthS, spB, List.getD]

theorem GroupLine_any (v : Value) (l : List Int) (w : World) (h : Ints w v l) :
    Calls Try.prog 7 #[.agg #[v]] w fun e w' => e = .returned (.string (grlF l)) ∧ Ext w w' := by
  obtain ⟨wb, hwb⟩ : ∃ wb, wb = w.alloc (.cells #[v] 27) := ⟨_, rfl⟩
  have hE0 := (Ext.refl w).alloc (.cells #[v] 27)
  have hb := box_cell w v 27
  rw [← hwb] at hE0 hb
  have hg : ∀ W, Ext wb W → Ints W v l := fun W hW => h.ext (hE0.trans hW)
  have hE := Ext.refl wb
  have Hsz : Hid (w.heap.size + 1 = wb.heap.size) := Lib.hid (by rw [hwb]; simp [go_sem])
  have Hwb := Lib.hid hwb
  clear hwb h
  have hbx := hb wb hE
  have cG0 := fun W (hW : Ext wb W) => IsGroup_any v l W (hg W hW)
  cases hgr : isGrp l
  · rw [hgr] at cG0
    have Hs := Lib.hid (grl_no hgr)
    go_enter Try.func7, Try.ntmps7
    go_wp2_with fail
    rw [← Hwb.out]
    go_wp2_with (refine (cG0 _ hE).mono ?_; rintro e w1 ⟨rfl, hE1⟩)
    go_ret
    exact ⟨ret_str Hs.out.symm, hE0.trans hE1⟩
  rw [hgr] at cG0
  have Hgr := Lib.hid hgr
  have Hs := Lib.hid (grl_yes hgr)
  have hob := ord_bd hgr
  have hex := expK_le hgr (Nat.le_refl l.length)
  have hsg := sgL_len hgr
  have hdv := dvEnd_le hgr
  have hca := caF_bd l
  have sA := fgF9_size l
  have sB := fmtB_size (n := ((ord l : Nat) : Int)) (by omega)
  have sC := fmtB_size (n := ((expN l : Nat) : Int)) (by unfold expN; omega)
  have sD := fmtB_size (n := (((sgL l).length : Nat) : Int)) (by omega)
  have sE := fmtB_size (n := ((dvEnd dvT (natG l) : Nat) : Int)) (by omega)
  have sF := fmtB_size (n := caF l) (by omega)
  have cA := fun W (hW : Ext wb W) => FormatGroup_any v l W (hg W hW)
  have cO := fun W (hW : Ext wb W) => OrderOf_grp v l W (hg W hW) Hgr
  have cX := fun W (hW : Ext wb W) => ExponentOf_grp v l W (hg W hW) Hgr
  have cV := fun W (hW : Ext wb W) => DavenportBound_grp v l W (hg W hW) Hgr
  have cU := fun W (hW : Ext wb W) => CountAutomorphisms_any v l W (hg W hW)
  have cP := fun W (hW : Ext wb W) => IsPrimeOrder_grp v l W (hg W hW) Hgr
  have cS : ∀ W, Ext wb W → Calls Try.prog 22 #[.agg #[v]] W fun e w' => ∃ ao c n, n = (sgL l).length ∧ e = .returned (.tuple #[.slice ao n c, .bool true]) ∧ Ext W w' := fun W hW => SubgroupsOf_by v l W (hg W hW) Hgr (fun w0 W u L hO hE hn => sort_own hO hE hn)
  simp only [caF_T] at cU
  simp only [dv_same hgr] at cV
  have cB := fun W => FormatInt_any ((ord l : Nat) : Int) (by omega) W
  have cC := fun W => FormatInt_any ((expN l : Nat) : Int) (by unfold expN; omega) W
  have cD := fun W => FormatInt_any (((sgL l).length : Nat) : Int) (by omega) W
  have cE := fun W => FormatInt_any ((dvEnd dvT (natG l) : Nat) : Int) (by omega) W
  have cF := fun W => FormatInt_any (caF l) (by omega) W
  obtain ⟨b2, hb2⟩ : ∃ x, x = primeB (ord l) := ⟨_, rfl⟩
  rw [← hb2] at Hs
  simp only [← hb2] at cP
  obtain ⟨A, hA⟩ : ∃ x, x = fgF l := ⟨_, rfl⟩
  obtain ⟨B, hB⟩ : ∃ x, x = fmtB ((ord l : Nat) : Int) := ⟨_, rfl⟩
  obtain ⟨C, hC⟩ : ∃ x, x = fmtB ((expN l : Nat) : Int) := ⟨_, rfl⟩
  obtain ⟨D, hD⟩ : ∃ x, x = fmtB (((sgL l).length : Nat) : Int) := ⟨_, rfl⟩
  obtain ⟨E, hE'⟩ : ∃ x, x = fmtB ((dvEnd dvT (natG l) : Nat) : Int) := ⟨_, rfl⟩
  obtain ⟨F, hF⟩ : ∃ x, x = fmtB (caF l) := ⟨_, rfl⟩
  rw [← hA, ← hB, ← hC, ← hD, ← hE', ← hF] at Hs
  simp only [← hA] at cA sA
  simp only [← hB] at cB sB
  simp only [← hC] at cC sC
  simp only [← hD] at cD sD
  simp only [← hE'] at cE sE
  simp only [← hF] at cF sF
  obtain ⟨ex, hex'⟩ : ∃ x, x = expN l := ⟨_, rfl⟩
  obtain ⟨sg, hsg'⟩ : ∃ x, x = (sgL l).length := ⟨_, rfl⟩
  obtain ⟨dv, hdv'⟩ : ∃ x, x = dvEnd dvT (natG l) := ⟨_, rfl⟩
  obtain ⟨ca, hca'⟩ : ∃ x, x = caF l := ⟨_, rfl⟩
  simp only [← hex'] at cX cC
  simp only [← hsg'] at cS cD
  simp only [← hdv'] at cV cE
  simp only [← hca'] at cU cF
  clear hb2 hA hB hC hD hE' hF hex' hsg' hdv' hca' hgr hex hsg hdv hca

  have hln_X0 : ∀ i, i < ([(⟨#[103, 114, 111, 117, 112]⟩ : ByteArray), A, (⟨#[111, 114, 100, 101, 114]⟩ : ByteArray), B, (⟨#[101, 120, 112, 111, 110, 101, 110, 116]⟩ : ByteArray), C, (⟨#[115, 117, 98, 103, 114, 111, 117, 112, 115]⟩ : ByteArray), D, (⟨#[100, 97, 118, 101, 110, 112, 111, 114, 116]⟩ : ByteArray), E] : List ByteArray).length → (nthS [(⟨#[103, 114, 111, 117, 112]⟩ : ByteArray), A, (⟨#[111, 114, 100, 101, 114]⟩ : ByteArray), B, (⟨#[101, 120, 112, 111, 110, 101, 110, 116]⟩ : ByteArray), C, (⟨#[115, 117, 98, 103, 114, 111, 117, 112, 115]⟩ : ByteArray), D, (⟨#[100, 97, 118, 101, 110, 112, 111, 114, 116]⟩ : ByteArray), E] i).size ≤ 5000 := by
    intro i hi
    match i, hi with
    | 0, _ => exact (by decide : ((⟨#[103, 114, 111, 117, 112]⟩ : ByteArray) : ByteArray).size ≤ 5000)
    | 1, _ => exact Nat.le_trans sA (by decide)
    | 2, _ => exact (by decide : ((⟨#[111, 114, 100, 101, 114]⟩ : ByteArray) : ByteArray).size ≤ 5000)
    | 3, _ => exact Nat.le_trans sB (by decide)
    | 4, _ => exact (by decide : ((⟨#[101, 120, 112, 111, 110, 101, 110, 116]⟩ : ByteArray) : ByteArray).size ≤ 5000)
    | 5, _ => exact Nat.le_trans sC (by decide)
    | 6, _ => exact (by decide : ((⟨#[115, 117, 98, 103, 114, 111, 117, 112, 115]⟩ : ByteArray) : ByteArray).size ≤ 5000)
    | 7, _ => exact Nat.le_trans sD (by decide)
    | 8, _ => exact (by decide : ((⟨#[100, 97, 118, 101, 110, 112, 111, 114, 116]⟩ : ByteArray) : ByteArray).size ≤ 5000)
    | 9, _ => exact Nat.le_trans sE (by decide)
  obtain ⟨X0, hX0⟩ : ∃ x, x = lineF [(⟨#[103, 114, 111, 117, 112]⟩ : ByteArray), A, (⟨#[111, 114, 100, 101, 114]⟩ : ByteArray), B, (⟨#[101, 120, 112, 111, 110, 101, 110, 116]⟩ : ByteArray), C, (⟨#[115, 117, 98, 103, 114, 111, 117, 112, 115]⟩ : ByteArray), D, (⟨#[100, 97, 118, 101, 110, 112, 111, 114, 116]⟩ : ByteArray), E] := ⟨_, rfl⟩
  have cL0 : ∀ (W : World), Calls Try.prog 23 #[.slice (some ⟨W.heap.size, 0, none⟩) 10 10] (W.alloc (.cells #[.string (⟨#[103, 114, 111, 117, 112]⟩ : ByteArray), .string A, .string (⟨#[111, 114, 100, 101, 114]⟩ : ByteArray), .string B, .string (⟨#[101, 120, 112, 111, 110, 101, 110, 116]⟩ : ByteArray), .string C, .string (⟨#[115, 117, 98, 103, 114, 111, 117, 112, 115]⟩ : ByteArray), .string D, .string (⟨#[100, 97, 118, 101, 110, 112, 111, 114, 116]⟩ : ByteArray), .string E] 9)) fun e w' => e = .returned (.string X0) ∧ Ext (W.alloc (.cells #[.string (⟨#[103, 114, 111, 117, 112]⟩ : ByteArray), .string A, .string (⟨#[111, 114, 100, 101, 114]⟩ : ByteArray), .string B, .string (⟨#[101, 120, 112, 111, 110, 101, 110, 116]⟩ : ByteArray), .string C, .string (⟨#[115, 117, 98, 103, 114, 111, 117, 112, 115]⟩ : ByteArray), .string D, .string (⟨#[100, 97, 118, 101, 110, 112, 111, 114, 116]⟩ : ByteArray), .string E] 9)) w' := fun W =>
    (line_any _ _ _ (strs_lit W [(⟨#[103, 114, 111, 117, 112]⟩ : ByteArray), A, (⟨#[111, 114, 100, 101, 114]⟩ : ByteArray), B, (⟨#[101, 120, 112, 111, 110, 101, 110, 116]⟩ : ByteArray), C, (⟨#[115, 117, 98, 103, 114, 111, 117, 112, 115]⟩ : ByteArray), D, (⟨#[100, 97, 118, 101, 110, 112, 111, 114, 116]⟩ : ByteArray), E] 9 (by simp)) hln_X0 (by simp)).mono fun e w' ⟨h1, h2⟩ => ⟨by rw [h1, hX0], by rw [← h2]; exact Ext.refl _⟩
  have z0 : X0.size ≤ 900 := by
    rw [hX0]
    obtain ⟨P, hP⟩ : ∃ x, x = ([(⟨#[103, 114, 111, 117, 112]⟩ : ByteArray), A, (⟨#[111, 114, 100, 101, 114]⟩ : ByteArray), B, (⟨#[101, 120, 112, 111, 110, 101, 110, 116]⟩ : ByteArray), C, (⟨#[115, 117, 98, 103, 114, 111, 117, 112, 115]⟩ : ByteArray), D, (⟨#[100, 97, 118, 101, 110, 112, 111, 114, 116]⟩ : ByteArray), E] : List ByteArray) := ⟨_, rfl⟩
    show (jn spB (nthS [(⟨#[103, 114, 111, 117, 112]⟩ : ByteArray), A, (⟨#[111, 114, 100, 101, 114]⟩ : ByteArray), B, (⟨#[101, 120, 112, 111, 110, 101, 110, 116]⟩ : ByteArray), C, (⟨#[115, 117, 98, 103, 114, 111, 117, 112, 115]⟩ : ByteArray), D, (⟨#[100, 97, 118, 101, 110, 112, 111, 114, 116]⟩ : ByteArray), E]) 10).size ≤ 900
    have q : (jn spB (nthS [(⟨#[103, 114, 111, 117, 112]⟩ : ByteArray), A, (⟨#[111, 114, 100, 101, 114]⟩ : ByteArray), B, (⟨#[101, 120, 112, 111, 110, 101, 110, 116]⟩ : ByteArray), C, (⟨#[115, 117, 98, 103, 114, 111, 117, 112, 115]⟩ : ByteArray), D, (⟨#[100, 97, 118, 101, 110, 112, 111, 114, 116]⟩ : ByteArray), E]) 0).size = 0 := rfl
    have p0 : (nthS [(⟨#[103, 114, 111, 117, 112]⟩ : ByteArray), A, (⟨#[111, 114, 100, 101, 114]⟩ : ByteArray), B, (⟨#[101, 120, 112, 111, 110, 101, 110, 116]⟩ : ByteArray), C, (⟨#[115, 117, 98, 103, 114, 111, 117, 112, 115]⟩ : ByteArray), D, (⟨#[100, 97, 118, 101, 110, 112, 111, 114, 116]⟩ : ByteArray), E] 0).size ≤ 20 := (by decide : ((⟨#[103, 114, 111, 117, 112]⟩ : ByteArray) : ByteArray).size ≤ 20)
    have p1 : (nthS [(⟨#[103, 114, 111, 117, 112]⟩ : ByteArray), A, (⟨#[111, 114, 100, 101, 114]⟩ : ByteArray), B, (⟨#[101, 120, 112, 111, 110, 101, 110, 116]⟩ : ByteArray), C, (⟨#[115, 117, 98, 103, 114, 111, 117, 112, 115]⟩ : ByteArray), D, (⟨#[100, 97, 118, 101, 110, 112, 111, 114, 116]⟩ : ByteArray), E] 1).size ≤ 600 := sA
    have p2 : (nthS [(⟨#[103, 114, 111, 117, 112]⟩ : ByteArray), A, (⟨#[111, 114, 100, 101, 114]⟩ : ByteArray), B, (⟨#[101, 120, 112, 111, 110, 101, 110, 116]⟩ : ByteArray), C, (⟨#[115, 117, 98, 103, 114, 111, 117, 112, 115]⟩ : ByteArray), D, (⟨#[100, 97, 118, 101, 110, 112, 111, 114, 116]⟩ : ByteArray), E] 2).size ≤ 20 := (by decide : ((⟨#[111, 114, 100, 101, 114]⟩ : ByteArray) : ByteArray).size ≤ 20)
    have p3 : (nthS [(⟨#[103, 114, 111, 117, 112]⟩ : ByteArray), A, (⟨#[111, 114, 100, 101, 114]⟩ : ByteArray), B, (⟨#[101, 120, 112, 111, 110, 101, 110, 116]⟩ : ByteArray), C, (⟨#[115, 117, 98, 103, 114, 111, 117, 112, 115]⟩ : ByteArray), D, (⟨#[100, 97, 118, 101, 110, 112, 111, 114, 116]⟩ : ByteArray), E] 3).size ≤ 13 := sB
    have p4 : (nthS [(⟨#[103, 114, 111, 117, 112]⟩ : ByteArray), A, (⟨#[111, 114, 100, 101, 114]⟩ : ByteArray), B, (⟨#[101, 120, 112, 111, 110, 101, 110, 116]⟩ : ByteArray), C, (⟨#[115, 117, 98, 103, 114, 111, 117, 112, 115]⟩ : ByteArray), D, (⟨#[100, 97, 118, 101, 110, 112, 111, 114, 116]⟩ : ByteArray), E] 4).size ≤ 20 := (by decide : ((⟨#[101, 120, 112, 111, 110, 101, 110, 116]⟩ : ByteArray) : ByteArray).size ≤ 20)
    have p5 : (nthS [(⟨#[103, 114, 111, 117, 112]⟩ : ByteArray), A, (⟨#[111, 114, 100, 101, 114]⟩ : ByteArray), B, (⟨#[101, 120, 112, 111, 110, 101, 110, 116]⟩ : ByteArray), C, (⟨#[115, 117, 98, 103, 114, 111, 117, 112, 115]⟩ : ByteArray), D, (⟨#[100, 97, 118, 101, 110, 112, 111, 114, 116]⟩ : ByteArray), E] 5).size ≤ 13 := sC
    have p6 : (nthS [(⟨#[103, 114, 111, 117, 112]⟩ : ByteArray), A, (⟨#[111, 114, 100, 101, 114]⟩ : ByteArray), B, (⟨#[101, 120, 112, 111, 110, 101, 110, 116]⟩ : ByteArray), C, (⟨#[115, 117, 98, 103, 114, 111, 117, 112, 115]⟩ : ByteArray), D, (⟨#[100, 97, 118, 101, 110, 112, 111, 114, 116]⟩ : ByteArray), E] 6).size ≤ 20 := (by decide : ((⟨#[115, 117, 98, 103, 114, 111, 117, 112, 115]⟩ : ByteArray) : ByteArray).size ≤ 20)
    have p7 : (nthS [(⟨#[103, 114, 111, 117, 112]⟩ : ByteArray), A, (⟨#[111, 114, 100, 101, 114]⟩ : ByteArray), B, (⟨#[101, 120, 112, 111, 110, 101, 110, 116]⟩ : ByteArray), C, (⟨#[115, 117, 98, 103, 114, 111, 117, 112, 115]⟩ : ByteArray), D, (⟨#[100, 97, 118, 101, 110, 112, 111, 114, 116]⟩ : ByteArray), E] 7).size ≤ 13 := sD
    have p8 : (nthS [(⟨#[103, 114, 111, 117, 112]⟩ : ByteArray), A, (⟨#[111, 114, 100, 101, 114]⟩ : ByteArray), B, (⟨#[101, 120, 112, 111, 110, 101, 110, 116]⟩ : ByteArray), C, (⟨#[115, 117, 98, 103, 114, 111, 117, 112, 115]⟩ : ByteArray), D, (⟨#[100, 97, 118, 101, 110, 112, 111, 114, 116]⟩ : ByteArray), E] 8).size ≤ 20 := (by decide : ((⟨#[100, 97, 118, 101, 110, 112, 111, 114, 116]⟩ : ByteArray) : ByteArray).size ≤ 20)
    have p9 : (nthS [(⟨#[103, 114, 111, 117, 112]⟩ : ByteArray), A, (⟨#[111, 114, 100, 101, 114]⟩ : ByteArray), B, (⟨#[101, 120, 112, 111, 110, 101, 110, 116]⟩ : ByteArray), C, (⟨#[115, 117, 98, 103, 114, 111, 117, 112, 115]⟩ : ByteArray), D, (⟨#[100, 97, 118, 101, 110, 112, 111, 114, 116]⟩ : ByteArray), E] 9).size ≤ 13 := sE
    have r0 : (jn spB (nthS [(⟨#[103, 114, 111, 117, 112]⟩ : ByteArray), A, (⟨#[111, 114, 100, 101, 114]⟩ : ByteArray), B, (⟨#[101, 120, 112, 111, 110, 101, 110, 116]⟩ : ByteArray), C, (⟨#[115, 117, 98, 103, 114, 111, 117, 112, 115]⟩ : ByteArray), D, (⟨#[100, 97, 118, 101, 110, 112, 111, 114, 116]⟩ : ByteArray), E]) 1).size ≤ (jn spB (nthS [(⟨#[103, 114, 111, 117, 112]⟩ : ByteArray), A, (⟨#[111, 114, 100, 101, 114]⟩ : ByteArray), B, (⟨#[101, 120, 112, 111, 110, 101, 110, 116]⟩ : ByteArray), C, (⟨#[115, 117, 98, 103, 114, 111, 117, 112, 115]⟩ : ByteArray), D, (⟨#[100, 97, 118, 101, 110, 112, 111, 114, 116]⟩ : ByteArray), E]) 0).size + 1 + (nthS [(⟨#[103, 114, 111, 117, 112]⟩ : ByteArray), A, (⟨#[111, 114, 100, 101, 114]⟩ : ByteArray), B, (⟨#[101, 120, 112, 111, 110, 101, 110, 116]⟩ : ByteArray), C, (⟨#[115, 117, 98, 103, 114, 111, 117, 112, 115]⟩ : ByteArray), D, (⟨#[100, 97, 118, 101, 110, 112, 111, 114, 116]⟩ : ByteArray), E] 0).size := jn_more (nthS [(⟨#[103, 114, 111, 117, 112]⟩ : ByteArray), A, (⟨#[111, 114, 100, 101, 114]⟩ : ByteArray), B, (⟨#[101, 120, 112, 111, 110, 101, 110, 116]⟩ : ByteArray), C, (⟨#[115, 117, 98, 103, 114, 111, 117, 112, 115]⟩ : ByteArray), D, (⟨#[100, 97, 118, 101, 110, 112, 111, 114, 116]⟩ : ByteArray), E]) 0
    have r1 : (jn spB (nthS [(⟨#[103, 114, 111, 117, 112]⟩ : ByteArray), A, (⟨#[111, 114, 100, 101, 114]⟩ : ByteArray), B, (⟨#[101, 120, 112, 111, 110, 101, 110, 116]⟩ : ByteArray), C, (⟨#[115, 117, 98, 103, 114, 111, 117, 112, 115]⟩ : ByteArray), D, (⟨#[100, 97, 118, 101, 110, 112, 111, 114, 116]⟩ : ByteArray), E]) 2).size ≤ (jn spB (nthS [(⟨#[103, 114, 111, 117, 112]⟩ : ByteArray), A, (⟨#[111, 114, 100, 101, 114]⟩ : ByteArray), B, (⟨#[101, 120, 112, 111, 110, 101, 110, 116]⟩ : ByteArray), C, (⟨#[115, 117, 98, 103, 114, 111, 117, 112, 115]⟩ : ByteArray), D, (⟨#[100, 97, 118, 101, 110, 112, 111, 114, 116]⟩ : ByteArray), E]) 1).size + 1 + (nthS [(⟨#[103, 114, 111, 117, 112]⟩ : ByteArray), A, (⟨#[111, 114, 100, 101, 114]⟩ : ByteArray), B, (⟨#[101, 120, 112, 111, 110, 101, 110, 116]⟩ : ByteArray), C, (⟨#[115, 117, 98, 103, 114, 111, 117, 112, 115]⟩ : ByteArray), D, (⟨#[100, 97, 118, 101, 110, 112, 111, 114, 116]⟩ : ByteArray), E] 1).size := jn_more (nthS [(⟨#[103, 114, 111, 117, 112]⟩ : ByteArray), A, (⟨#[111, 114, 100, 101, 114]⟩ : ByteArray), B, (⟨#[101, 120, 112, 111, 110, 101, 110, 116]⟩ : ByteArray), C, (⟨#[115, 117, 98, 103, 114, 111, 117, 112, 115]⟩ : ByteArray), D, (⟨#[100, 97, 118, 101, 110, 112, 111, 114, 116]⟩ : ByteArray), E]) 1
    have r2 : (jn spB (nthS [(⟨#[103, 114, 111, 117, 112]⟩ : ByteArray), A, (⟨#[111, 114, 100, 101, 114]⟩ : ByteArray), B, (⟨#[101, 120, 112, 111, 110, 101, 110, 116]⟩ : ByteArray), C, (⟨#[115, 117, 98, 103, 114, 111, 117, 112, 115]⟩ : ByteArray), D, (⟨#[100, 97, 118, 101, 110, 112, 111, 114, 116]⟩ : ByteArray), E]) 3).size ≤ (jn spB (nthS [(⟨#[103, 114, 111, 117, 112]⟩ : ByteArray), A, (⟨#[111, 114, 100, 101, 114]⟩ : ByteArray), B, (⟨#[101, 120, 112, 111, 110, 101, 110, 116]⟩ : ByteArray), C, (⟨#[115, 117, 98, 103, 114, 111, 117, 112, 115]⟩ : ByteArray), D, (⟨#[100, 97, 118, 101, 110, 112, 111, 114, 116]⟩ : ByteArray), E]) 2).size + 1 + (nthS [(⟨#[103, 114, 111, 117, 112]⟩ : ByteArray), A, (⟨#[111, 114, 100, 101, 114]⟩ : ByteArray), B, (⟨#[101, 120, 112, 111, 110, 101, 110, 116]⟩ : ByteArray), C, (⟨#[115, 117, 98, 103, 114, 111, 117, 112, 115]⟩ : ByteArray), D, (⟨#[100, 97, 118, 101, 110, 112, 111, 114, 116]⟩ : ByteArray), E] 2).size := jn_more (nthS [(⟨#[103, 114, 111, 117, 112]⟩ : ByteArray), A, (⟨#[111, 114, 100, 101, 114]⟩ : ByteArray), B, (⟨#[101, 120, 112, 111, 110, 101, 110, 116]⟩ : ByteArray), C, (⟨#[115, 117, 98, 103, 114, 111, 117, 112, 115]⟩ : ByteArray), D, (⟨#[100, 97, 118, 101, 110, 112, 111, 114, 116]⟩ : ByteArray), E]) 2
    have r3 : (jn spB (nthS [(⟨#[103, 114, 111, 117, 112]⟩ : ByteArray), A, (⟨#[111, 114, 100, 101, 114]⟩ : ByteArray), B, (⟨#[101, 120, 112, 111, 110, 101, 110, 116]⟩ : ByteArray), C, (⟨#[115, 117, 98, 103, 114, 111, 117, 112, 115]⟩ : ByteArray), D, (⟨#[100, 97, 118, 101, 110, 112, 111, 114, 116]⟩ : ByteArray), E]) 4).size ≤ (jn spB (nthS [(⟨#[103, 114, 111, 117, 112]⟩ : ByteArray), A, (⟨#[111, 114, 100, 101, 114]⟩ : ByteArray), B, (⟨#[101, 120, 112, 111, 110, 101, 110, 116]⟩ : ByteArray), C, (⟨#[115, 117, 98, 103, 114, 111, 117, 112, 115]⟩ : ByteArray), D, (⟨#[100, 97, 118, 101, 110, 112, 111, 114, 116]⟩ : ByteArray), E]) 3).size + 1 + (nthS [(⟨#[103, 114, 111, 117, 112]⟩ : ByteArray), A, (⟨#[111, 114, 100, 101, 114]⟩ : ByteArray), B, (⟨#[101, 120, 112, 111, 110, 101, 110, 116]⟩ : ByteArray), C, (⟨#[115, 117, 98, 103, 114, 111, 117, 112, 115]⟩ : ByteArray), D, (⟨#[100, 97, 118, 101, 110, 112, 111, 114, 116]⟩ : ByteArray), E] 3).size := jn_more (nthS [(⟨#[103, 114, 111, 117, 112]⟩ : ByteArray), A, (⟨#[111, 114, 100, 101, 114]⟩ : ByteArray), B, (⟨#[101, 120, 112, 111, 110, 101, 110, 116]⟩ : ByteArray), C, (⟨#[115, 117, 98, 103, 114, 111, 117, 112, 115]⟩ : ByteArray), D, (⟨#[100, 97, 118, 101, 110, 112, 111, 114, 116]⟩ : ByteArray), E]) 3
    have r4 : (jn spB (nthS [(⟨#[103, 114, 111, 117, 112]⟩ : ByteArray), A, (⟨#[111, 114, 100, 101, 114]⟩ : ByteArray), B, (⟨#[101, 120, 112, 111, 110, 101, 110, 116]⟩ : ByteArray), C, (⟨#[115, 117, 98, 103, 114, 111, 117, 112, 115]⟩ : ByteArray), D, (⟨#[100, 97, 118, 101, 110, 112, 111, 114, 116]⟩ : ByteArray), E]) 5).size ≤ (jn spB (nthS [(⟨#[103, 114, 111, 117, 112]⟩ : ByteArray), A, (⟨#[111, 114, 100, 101, 114]⟩ : ByteArray), B, (⟨#[101, 120, 112, 111, 110, 101, 110, 116]⟩ : ByteArray), C, (⟨#[115, 117, 98, 103, 114, 111, 117, 112, 115]⟩ : ByteArray), D, (⟨#[100, 97, 118, 101, 110, 112, 111, 114, 116]⟩ : ByteArray), E]) 4).size + 1 + (nthS [(⟨#[103, 114, 111, 117, 112]⟩ : ByteArray), A, (⟨#[111, 114, 100, 101, 114]⟩ : ByteArray), B, (⟨#[101, 120, 112, 111, 110, 101, 110, 116]⟩ : ByteArray), C, (⟨#[115, 117, 98, 103, 114, 111, 117, 112, 115]⟩ : ByteArray), D, (⟨#[100, 97, 118, 101, 110, 112, 111, 114, 116]⟩ : ByteArray), E] 4).size := jn_more (nthS [(⟨#[103, 114, 111, 117, 112]⟩ : ByteArray), A, (⟨#[111, 114, 100, 101, 114]⟩ : ByteArray), B, (⟨#[101, 120, 112, 111, 110, 101, 110, 116]⟩ : ByteArray), C, (⟨#[115, 117, 98, 103, 114, 111, 117, 112, 115]⟩ : ByteArray), D, (⟨#[100, 97, 118, 101, 110, 112, 111, 114, 116]⟩ : ByteArray), E]) 4
    have r5 : (jn spB (nthS [(⟨#[103, 114, 111, 117, 112]⟩ : ByteArray), A, (⟨#[111, 114, 100, 101, 114]⟩ : ByteArray), B, (⟨#[101, 120, 112, 111, 110, 101, 110, 116]⟩ : ByteArray), C, (⟨#[115, 117, 98, 103, 114, 111, 117, 112, 115]⟩ : ByteArray), D, (⟨#[100, 97, 118, 101, 110, 112, 111, 114, 116]⟩ : ByteArray), E]) 6).size ≤ (jn spB (nthS [(⟨#[103, 114, 111, 117, 112]⟩ : ByteArray), A, (⟨#[111, 114, 100, 101, 114]⟩ : ByteArray), B, (⟨#[101, 120, 112, 111, 110, 101, 110, 116]⟩ : ByteArray), C, (⟨#[115, 117, 98, 103, 114, 111, 117, 112, 115]⟩ : ByteArray), D, (⟨#[100, 97, 118, 101, 110, 112, 111, 114, 116]⟩ : ByteArray), E]) 5).size + 1 + (nthS [(⟨#[103, 114, 111, 117, 112]⟩ : ByteArray), A, (⟨#[111, 114, 100, 101, 114]⟩ : ByteArray), B, (⟨#[101, 120, 112, 111, 110, 101, 110, 116]⟩ : ByteArray), C, (⟨#[115, 117, 98, 103, 114, 111, 117, 112, 115]⟩ : ByteArray), D, (⟨#[100, 97, 118, 101, 110, 112, 111, 114, 116]⟩ : ByteArray), E] 5).size := jn_more (nthS [(⟨#[103, 114, 111, 117, 112]⟩ : ByteArray), A, (⟨#[111, 114, 100, 101, 114]⟩ : ByteArray), B, (⟨#[101, 120, 112, 111, 110, 101, 110, 116]⟩ : ByteArray), C, (⟨#[115, 117, 98, 103, 114, 111, 117, 112, 115]⟩ : ByteArray), D, (⟨#[100, 97, 118, 101, 110, 112, 111, 114, 116]⟩ : ByteArray), E]) 5
    have r6 : (jn spB (nthS [(⟨#[103, 114, 111, 117, 112]⟩ : ByteArray), A, (⟨#[111, 114, 100, 101, 114]⟩ : ByteArray), B, (⟨#[101, 120, 112, 111, 110, 101, 110, 116]⟩ : ByteArray), C, (⟨#[115, 117, 98, 103, 114, 111, 117, 112, 115]⟩ : ByteArray), D, (⟨#[100, 97, 118, 101, 110, 112, 111, 114, 116]⟩ : ByteArray), E]) 7).size ≤ (jn spB (nthS [(⟨#[103, 114, 111, 117, 112]⟩ : ByteArray), A, (⟨#[111, 114, 100, 101, 114]⟩ : ByteArray), B, (⟨#[101, 120, 112, 111, 110, 101, 110, 116]⟩ : ByteArray), C, (⟨#[115, 117, 98, 103, 114, 111, 117, 112, 115]⟩ : ByteArray), D, (⟨#[100, 97, 118, 101, 110, 112, 111, 114, 116]⟩ : ByteArray), E]) 6).size + 1 + (nthS [(⟨#[103, 114, 111, 117, 112]⟩ : ByteArray), A, (⟨#[111, 114, 100, 101, 114]⟩ : ByteArray), B, (⟨#[101, 120, 112, 111, 110, 101, 110, 116]⟩ : ByteArray), C, (⟨#[115, 117, 98, 103, 114, 111, 117, 112, 115]⟩ : ByteArray), D, (⟨#[100, 97, 118, 101, 110, 112, 111, 114, 116]⟩ : ByteArray), E] 6).size := jn_more (nthS [(⟨#[103, 114, 111, 117, 112]⟩ : ByteArray), A, (⟨#[111, 114, 100, 101, 114]⟩ : ByteArray), B, (⟨#[101, 120, 112, 111, 110, 101, 110, 116]⟩ : ByteArray), C, (⟨#[115, 117, 98, 103, 114, 111, 117, 112, 115]⟩ : ByteArray), D, (⟨#[100, 97, 118, 101, 110, 112, 111, 114, 116]⟩ : ByteArray), E]) 6
    have r7 : (jn spB (nthS [(⟨#[103, 114, 111, 117, 112]⟩ : ByteArray), A, (⟨#[111, 114, 100, 101, 114]⟩ : ByteArray), B, (⟨#[101, 120, 112, 111, 110, 101, 110, 116]⟩ : ByteArray), C, (⟨#[115, 117, 98, 103, 114, 111, 117, 112, 115]⟩ : ByteArray), D, (⟨#[100, 97, 118, 101, 110, 112, 111, 114, 116]⟩ : ByteArray), E]) 8).size ≤ (jn spB (nthS [(⟨#[103, 114, 111, 117, 112]⟩ : ByteArray), A, (⟨#[111, 114, 100, 101, 114]⟩ : ByteArray), B, (⟨#[101, 120, 112, 111, 110, 101, 110, 116]⟩ : ByteArray), C, (⟨#[115, 117, 98, 103, 114, 111, 117, 112, 115]⟩ : ByteArray), D, (⟨#[100, 97, 118, 101, 110, 112, 111, 114, 116]⟩ : ByteArray), E]) 7).size + 1 + (nthS [(⟨#[103, 114, 111, 117, 112]⟩ : ByteArray), A, (⟨#[111, 114, 100, 101, 114]⟩ : ByteArray), B, (⟨#[101, 120, 112, 111, 110, 101, 110, 116]⟩ : ByteArray), C, (⟨#[115, 117, 98, 103, 114, 111, 117, 112, 115]⟩ : ByteArray), D, (⟨#[100, 97, 118, 101, 110, 112, 111, 114, 116]⟩ : ByteArray), E] 7).size := jn_more (nthS [(⟨#[103, 114, 111, 117, 112]⟩ : ByteArray), A, (⟨#[111, 114, 100, 101, 114]⟩ : ByteArray), B, (⟨#[101, 120, 112, 111, 110, 101, 110, 116]⟩ : ByteArray), C, (⟨#[115, 117, 98, 103, 114, 111, 117, 112, 115]⟩ : ByteArray), D, (⟨#[100, 97, 118, 101, 110, 112, 111, 114, 116]⟩ : ByteArray), E]) 7
    have r8 : (jn spB (nthS [(⟨#[103, 114, 111, 117, 112]⟩ : ByteArray), A, (⟨#[111, 114, 100, 101, 114]⟩ : ByteArray), B, (⟨#[101, 120, 112, 111, 110, 101, 110, 116]⟩ : ByteArray), C, (⟨#[115, 117, 98, 103, 114, 111, 117, 112, 115]⟩ : ByteArray), D, (⟨#[100, 97, 118, 101, 110, 112, 111, 114, 116]⟩ : ByteArray), E]) 9).size ≤ (jn spB (nthS [(⟨#[103, 114, 111, 117, 112]⟩ : ByteArray), A, (⟨#[111, 114, 100, 101, 114]⟩ : ByteArray), B, (⟨#[101, 120, 112, 111, 110, 101, 110, 116]⟩ : ByteArray), C, (⟨#[115, 117, 98, 103, 114, 111, 117, 112, 115]⟩ : ByteArray), D, (⟨#[100, 97, 118, 101, 110, 112, 111, 114, 116]⟩ : ByteArray), E]) 8).size + 1 + (nthS [(⟨#[103, 114, 111, 117, 112]⟩ : ByteArray), A, (⟨#[111, 114, 100, 101, 114]⟩ : ByteArray), B, (⟨#[101, 120, 112, 111, 110, 101, 110, 116]⟩ : ByteArray), C, (⟨#[115, 117, 98, 103, 114, 111, 117, 112, 115]⟩ : ByteArray), D, (⟨#[100, 97, 118, 101, 110, 112, 111, 114, 116]⟩ : ByteArray), E] 8).size := jn_more (nthS [(⟨#[103, 114, 111, 117, 112]⟩ : ByteArray), A, (⟨#[111, 114, 100, 101, 114]⟩ : ByteArray), B, (⟨#[101, 120, 112, 111, 110, 101, 110, 116]⟩ : ByteArray), C, (⟨#[115, 117, 98, 103, 114, 111, 117, 112, 115]⟩ : ByteArray), D, (⟨#[100, 97, 118, 101, 110, 112, 111, 114, 116]⟩ : ByteArray), E]) 8
    have r9 : (jn spB (nthS [(⟨#[103, 114, 111, 117, 112]⟩ : ByteArray), A, (⟨#[111, 114, 100, 101, 114]⟩ : ByteArray), B, (⟨#[101, 120, 112, 111, 110, 101, 110, 116]⟩ : ByteArray), C, (⟨#[115, 117, 98, 103, 114, 111, 117, 112, 115]⟩ : ByteArray), D, (⟨#[100, 97, 118, 101, 110, 112, 111, 114, 116]⟩ : ByteArray), E]) 10).size ≤ (jn spB (nthS [(⟨#[103, 114, 111, 117, 112]⟩ : ByteArray), A, (⟨#[111, 114, 100, 101, 114]⟩ : ByteArray), B, (⟨#[101, 120, 112, 111, 110, 101, 110, 116]⟩ : ByteArray), C, (⟨#[115, 117, 98, 103, 114, 111, 117, 112, 115]⟩ : ByteArray), D, (⟨#[100, 97, 118, 101, 110, 112, 111, 114, 116]⟩ : ByteArray), E]) 9).size + 1 + (nthS [(⟨#[103, 114, 111, 117, 112]⟩ : ByteArray), A, (⟨#[111, 114, 100, 101, 114]⟩ : ByteArray), B, (⟨#[101, 120, 112, 111, 110, 101, 110, 116]⟩ : ByteArray), C, (⟨#[115, 117, 98, 103, 114, 111, 117, 112, 115]⟩ : ByteArray), D, (⟨#[100, 97, 118, 101, 110, 112, 111, 114, 116]⟩ : ByteArray), E] 9).size := jn_more (nthS [(⟨#[103, 114, 111, 117, 112]⟩ : ByteArray), A, (⟨#[111, 114, 100, 101, 114]⟩ : ByteArray), B, (⟨#[101, 120, 112, 111, 110, 101, 110, 116]⟩ : ByteArray), C, (⟨#[115, 117, 98, 103, 114, 111, 117, 112, 115]⟩ : ByteArray), D, (⟨#[100, 97, 118, 101, 110, 112, 111, 114, 116]⟩ : ByteArray), E]) 9
    rw [← hP] at q p0 r0 p1 r1 p2 r2 p3 r3 p4 r4 p5 r5 p6 r6 p7 r7 p8 r8 p9 r9 ⊢
    omega
  have HX0 := Lib.hid hX0
  clear hX0 hln_X0 sA sB sC sD sE
  go_enter Try.func7, Try.ntmps7
  go_wp2_with fail
  rw [← Hwb.out]
  go_wp2_with (first | (go_at_call 21; refine (cG0 _ hE).mono ?_; rintro e w1 ⟨rfl, hE1⟩; have hb1 := hb _ hE1) | (go_at_call 22; refine (cS _ hE1).mono ?_; rintro e w2 ⟨aoS, cS2, nS, hnS, rfl, hE2⟩; subst hnS))
  replace hE := hE1.trans hE2
  clear hE1 hE2 hb1 hbx
  have kb := fun W (hW : Ext w2 W) => hb W (hE.trans hW)
  have hD := (Ext.refl w2).drew
  go_wp2_with fail
  first | (go_region_held3 (fun W => Ext w2 W ∧ W.cell? ⟨w.heap.size, 0, none⟩ = some v) (exact ⟨(by repeat (first | assumption | exact Ext.refl _ | (apply And.left; assumption) | apply Ext.drew | apply Ext.alloc)), kb _ (by repeat (first | assumption | exact Ext.refl _ | (apply And.left; assumption) | apply Ext.drew | apply Ext.alloc))⟩) (first | (go_at_call 24; ((first | (with_reducible refine Calls.mono (cA _ (hE.trans (by repeat (first | assumption | exact Ext.refl _ | (apply And.left; assumption) | apply Ext.drew | apply Ext.alloc)))) ?_)); rintro e wH ⟨rfl, hX⟩; have hH := Ext.trans (a := w2) (by repeat (first | assumption | exact Ext.refl _ | (apply And.left; assumption) | apply Ext.drew | apply Ext.alloc)) hX)) | (go_at_call 26; ((first | (with_reducible refine Calls.mono (cO _ (hE.trans (by repeat (first | assumption | exact Ext.refl _ | (apply And.left; assumption) | apply Ext.drew | apply Ext.alloc)))) ?_)); rintro e wH ⟨rfl, hX⟩; have hH := Ext.trans (a := w2) (by repeat (first | assumption | exact Ext.refl _ | (apply And.left; assumption) | apply Ext.drew | apply Ext.alloc)) hX)) | (go_at_call 25; ((first | (with_reducible refine Calls.mono (cB _) ?_) | (with_reducible refine Calls.mono (cC _) ?_) | (with_reducible refine Calls.mono (cD _) ?_) | (with_reducible refine Calls.mono (cE _) ?_)); rintro e wH ⟨rfl, hX⟩; have hH := Ext.trans (a := w2) (by repeat (first | assumption | exact Ext.refl _ | (apply And.left; assumption) | apply Ext.drew | apply Ext.alloc)) hX)) | (go_at_call 27; ((first | (with_reducible refine Calls.mono (cX _ (hE.trans (by repeat (first | assumption | exact Ext.refl _ | (apply And.left; assumption) | apply Ext.drew | apply Ext.alloc)))) ?_)); rintro e wH ⟨rfl, hX⟩; have hH := Ext.trans (a := w2) (by repeat (first | assumption | exact Ext.refl _ | (apply And.left; assumption) | apply Ext.drew | apply Ext.alloc)) hX)) | (go_at_call 28; ((first | (with_reducible refine Calls.mono (cV _ (hE.trans (by repeat (first | assumption | exact Ext.refl _ | (apply And.left; assumption) | apply Ext.drew | apply Ext.alloc)))) ?_)); rintro e wH ⟨rfl, hX⟩; have hH := Ext.trans (a := w2) (by repeat (first | assumption | exact Ext.refl _ | (apply And.left; assumption) | apply Ext.drew | apply Ext.alloc)) hX)) | (go_at_call 23; ((with_reducible refine Calls.mono (cL0 _) ?_); rintro e wL ⟨rfl, hX⟩; have hHL := Ext.trans (a := w2) (by repeat (first | assumption | exact Ext.refl _ | (apply And.left; assumption) | apply Ext.drew | apply Ext.alloc)) hX)))) | (fail "the region")
  have hE3 := hE.trans hHL
  have kb3 := fun W (hW : Ext wL W) => hb W (hE3.trans hW)
  have hD3 := (Ext.refl wL).drew
  clear hD hHL
  by_cases h9 : ord l ≤ 9
  · have h9I : ((ord l : Nat) : Int) ≤ 9 := by omega
    rw [decide_eq_true h9] at Hs
    have hd9 : decide (((ord l : Nat) : Int) ≤ 9) = true := decide_eq_true h9I
    obtain ⟨X1, hX1⟩ : ∃ x, x = (if true then lineF [X0, (⟨#[97, 117, 116, 111, 109, 111, 114, 112, 104, 105, 115, 109, 115]⟩ : ByteArray), F] else X0) := ⟨_, rfl⟩
    have z1 : X1.size ≤ 950 := by rw [hX1]; have r := sF; have r0 := z0; rw [if_pos rfl, two_more X0 (⟨#[97, 117, 116, 111, 109, 111, 114, 112, 104, 105, 115, 109, 115]⟩ : ByteArray) F (⟨#[32, 97, 117, 116, 111, 109, 111, 114, 112, 104, 105, 115, 109, 115, 32]⟩ : ByteArray) rfl]; simp only [ByteArray.size_append]; have q2 : ((⟨#[32, 97, 117, 116, 111, 109, 111, 114, 112, 104, 105, 115, 109, 115, 32]⟩ : ByteArray) : ByteArray).size = 15 := rfl; omega
    have cI1 : ∀ (W : World), Calls Try.prog 29 #[.string X0, .bool true, .slice (some ⟨W.heap.size, 0, none⟩) 2 2] (W.alloc (.cells #[.string (⟨#[97, 117, 116, 111, 109, 111, 114, 112, 104, 105, 115, 109, 115]⟩ : ByteArray), .string F] 9)) fun e w' => e = .returned (.string X1) ∧ Ext (W.alloc (.cells #[.string (⟨#[97, 117, 116, 111, 109, 111, 114, 112, 104, 105, 115, 109, 115]⟩ : ByteArray), .string F] 9)) w' := fun W => by
      rw [hX1]
      exact ifSo_any X0 true _ [(⟨#[97, 117, 116, 111, 109, 111, 114, 112, 104, 105, 115, 109, 115]⟩ : ByteArray), F] _ (strs_lit W [(⟨#[97, 117, 116, 111, 109, 111, 114, 112, 104, 105, 115, 109, 115]⟩ : ByteArray), F] 9 (by simp)) (Nat.le_trans z0 (by decide)) (fun i hi => by
        match i, hi with
        | 0, _ => exact (by decide : ((⟨#[97, 117, 116, 111, 109, 111, 114, 112, 104, 105, 115, 109, 115]⟩ : ByteArray) : ByteArray).size ≤ 5000)
        | 1, _ => exact Nat.le_trans sF (by decide)) (by simp) (by simp)
    obtain ⟨X2, hX2⟩ : ∃ x, x = (if b2 then lineF [X1, (⟨#[112, 114, 105, 109, 101]⟩ : ByteArray)] else X1) := ⟨_, rfl⟩
    have cI2 : ∀ (W : World), Calls Try.prog 29 #[.string X1, .bool b2, .slice (some ⟨W.heap.size, 0, none⟩) 1 1] (W.alloc (.cells #[.string (⟨#[112, 114, 105, 109, 101]⟩ : ByteArray)] 9)) fun e w' => e = .returned (.string X2) ∧ Ext (W.alloc (.cells #[.string (⟨#[112, 114, 105, 109, 101]⟩ : ByteArray)] 9)) w' := fun W => by
      rw [hX2]
      exact ifSo_any X1 b2 _ [(⟨#[112, 114, 105, 109, 101]⟩ : ByteArray)] _ (strs_lit W [(⟨#[112, 114, 105, 109, 101]⟩ : ByteArray)] 9 (by simp)) (Nat.le_trans z1 (by decide)) (fun i hi => by
        match i, hi with
        | 0, _ => exact (by decide : ((⟨#[112, 114, 105, 109, 101]⟩ : ByteArray) : ByteArray).size ≤ 5000)) (by simp) (by simp)
    have Hfin : Hid (grlF l = X2) := Lib.hid (by rw [hX2, one_more X1 b2 (⟨#[112, 114, 105, 109, 101]⟩ : ByteArray) (⟨#[32, 112, 114, 105, 109, 101]⟩ : ByteArray) rfl, hX1, if_pos rfl, two_more X0 (⟨#[97, 117, 116, 111, 109, 111, 114, 112, 104, 105, 115, 109, 115]⟩ : ByteArray) F (⟨#[32, 97, 117, 116, 111, 109, 111, 114, 112, 104, 105, 115, 109, 115, 32]⟩ : ByteArray) rfl, HX0.out, grl_head, Hs.out]; rfl)
    have cI1g := fun (W : World) => (by rw [hd9]; exact cI1 W : Calls Try.prog 29 #[.string X0, .bool (decide (((ord l : Nat) : Int) ≤ 9)), .slice (some ⟨W.heap.size, 0, none⟩) 2 2] (W.alloc (.cells #[.string (⟨#[97, 117, 116, 111, 109, 111, 114, 112, 104, 105, 115, 109, 115]⟩ : ByteArray), .string F] 9)) fun e w' => e = .returned (.string X1) ∧ Ext (W.alloc (.cells #[.string (⟨#[97, 117, 116, 111, 109, 111, 114, 112, 104, 105, 115, 109, 115]⟩ : ByteArray), .string F] 9)) w')
    clear hd9 hX1 hX2 z0 z1 sF Hs h9
    go_wp2_with fail
    first | (go_region_held3 (fun W => Ext wL W ∧ W.cell? ⟨w.heap.size, 0, none⟩ = some v) (exact ⟨(by repeat (first | assumption | exact Ext.refl _ | (apply And.left; assumption) | apply Ext.drew | apply Ext.alloc)), kb3 _ (by repeat (first | assumption | exact Ext.refl _ | (apply And.left; assumption) | apply Ext.drew | apply Ext.alloc))⟩) (first | (go_at_call 26; ((first | (with_reducible refine Calls.mono (cO _ (hE3.trans (by repeat (first | assumption | exact Ext.refl _ | (apply And.left; assumption) | apply Ext.drew | apply Ext.alloc)))) ?_)); rintro e wH ⟨rfl, hX⟩; have hH := Ext.trans (a := wL) (by repeat (first | assumption | exact Ext.refl _ | (apply And.left; assumption) | apply Ext.drew | apply Ext.alloc)) hX)) | (go_at_call 30; ((first | (with_reducible refine Calls.mono (cU _ (hE3.trans (by repeat (first | assumption | exact Ext.refl _ | (apply And.left; assumption) | apply Ext.drew | apply Ext.alloc)))) ?_)); rintro e wH ⟨rfl, hX⟩; have hH := Ext.trans (a := wL) (by repeat (first | assumption | exact Ext.refl _ | (apply And.left; assumption) | apply Ext.drew | apply Ext.alloc)) hX)) | (go_at_call 25; ((first | (with_reducible refine Calls.mono (cF _) ?_)); rintro e wH ⟨rfl, hX⟩; have hH := Ext.trans (a := wL) (by repeat (first | assumption | exact Ext.refl _ | (apply And.left; assumption) | apply Ext.drew | apply Ext.alloc)) hX)) | (go_at_call 29; ((first | (with_reducible refine Calls.mono (cI1g _) ?_) | (with_reducible refine Calls.mono (cI1 _) ?_)); rintro e wM ⟨rfl, hX⟩; have hHM := Ext.trans (a := wL) (by repeat (first | assumption | exact Ext.refl _ | (apply And.left; assumption) | apply Ext.drew | apply Ext.alloc)) hX)))) | (fail "the region")
    have hE4 := hE3.trans hHM
    have kb4 := hb _ hE4
    go_wp2_with (first | (go_at_call 31; refine (cP _ hE4).mono ?_; rintro e w5 ⟨rfl, hE5⟩; have hE45 := hE4.trans hE5) | (go_at_call 29; with_reducible refine Calls.mono (cI2 _) ?_; rintro e w6 ⟨rfl, hE6⟩; have hE56 := hE45.trans (Ext.trans ((Ext.refl _).alloc _) hE6)))
    go_ret
    exact ⟨ret_str Hfin.out.symm, hE0.trans hE56⟩
  · have h9I : ¬ ((ord l : Nat) : Int) ≤ 9 := by omega
    rw [decide_eq_false h9] at Hs
    have hd9 : decide (((ord l : Nat) : Int) ≤ 9) = false := decide_eq_false h9I
    obtain ⟨X1, hX1⟩ : ∃ x, x = (if false then lineF [X0, (⟨#[97, 117, 116, 111, 109, 111, 114, 112, 104, 105, 115, 109, 115]⟩ : ByteArray), F] else X0) := ⟨_, rfl⟩
    have z1 : X1.size ≤ 950 := by rw [hX1]; have r0 := z0; rw [if_neg (by decide)]; omega
    have cI1 : ∀ (W : World), Calls Try.prog 29 #[.string X0, .bool false, .slice (some ⟨W.heap.size, 0, none⟩) 2 2] (W.alloc (.cells #[.string (⟨#[97, 117, 116, 111, 109, 111, 114, 112, 104, 105, 115, 109, 115]⟩ : ByteArray), .string F] 9)) fun e w' => e = .returned (.string X1) ∧ Ext (W.alloc (.cells #[.string (⟨#[97, 117, 116, 111, 109, 111, 114, 112, 104, 105, 115, 109, 115]⟩ : ByteArray), .string F] 9)) w' := fun W => by
      rw [hX1]
      exact ifSo_any X0 false _ [(⟨#[97, 117, 116, 111, 109, 111, 114, 112, 104, 105, 115, 109, 115]⟩ : ByteArray), F] _ (strs_lit W [(⟨#[97, 117, 116, 111, 109, 111, 114, 112, 104, 105, 115, 109, 115]⟩ : ByteArray), F] 9 (by simp)) (Nat.le_trans z0 (by decide)) (fun i hi => by
        match i, hi with
        | 0, _ => exact (by decide : ((⟨#[97, 117, 116, 111, 109, 111, 114, 112, 104, 105, 115, 109, 115]⟩ : ByteArray) : ByteArray).size ≤ 5000)
        | 1, _ => exact Nat.le_trans sF (by decide)) (by simp) (by simp)
    obtain ⟨X2, hX2⟩ : ∃ x, x = (if b2 then lineF [X1, (⟨#[112, 114, 105, 109, 101]⟩ : ByteArray)] else X1) := ⟨_, rfl⟩
    have cI2 : ∀ (W : World), Calls Try.prog 29 #[.string X1, .bool b2, .slice (some ⟨W.heap.size, 0, none⟩) 1 1] (W.alloc (.cells #[.string (⟨#[112, 114, 105, 109, 101]⟩ : ByteArray)] 9)) fun e w' => e = .returned (.string X2) ∧ Ext (W.alloc (.cells #[.string (⟨#[112, 114, 105, 109, 101]⟩ : ByteArray)] 9)) w' := fun W => by
      rw [hX2]
      exact ifSo_any X1 b2 _ [(⟨#[112, 114, 105, 109, 101]⟩ : ByteArray)] _ (strs_lit W [(⟨#[112, 114, 105, 109, 101]⟩ : ByteArray)] 9 (by simp)) (Nat.le_trans z1 (by decide)) (fun i hi => by
        match i, hi with
        | 0, _ => exact (by decide : ((⟨#[112, 114, 105, 109, 101]⟩ : ByteArray) : ByteArray).size ≤ 5000)) (by simp) (by simp)
    have Hfin : Hid (grlF l = X2) := Lib.hid (by rw [hX2, one_more X1 b2 (⟨#[112, 114, 105, 109, 101]⟩ : ByteArray) (⟨#[32, 112, 114, 105, 109, 101]⟩ : ByteArray) rfl, hX1, if_neg (by decide), HX0.out, grl_head, Hs.out]; rfl)
    have cI1g := fun (W : World) => (by rw [hd9]; exact cI1 W : Calls Try.prog 29 #[.string X0, .bool (decide (((ord l : Nat) : Int) ≤ 9)), .slice (some ⟨W.heap.size, 0, none⟩) 2 2] (W.alloc (.cells #[.string (⟨#[97, 117, 116, 111, 109, 111, 114, 112, 104, 105, 115, 109, 115]⟩ : ByteArray), .string F] 9)) fun e w' => e = .returned (.string X1) ∧ Ext (W.alloc (.cells #[.string (⟨#[97, 117, 116, 111, 109, 111, 114, 112, 104, 105, 115, 109, 115]⟩ : ByteArray), .string F] 9)) w')
    clear hd9 hX1 hX2 z0 z1 sF Hs h9
    go_wp2_with fail
    first | (go_region_held3 (fun W => Ext wL W ∧ W.cell? ⟨w.heap.size, 0, none⟩ = some v) (exact ⟨(by repeat (first | assumption | exact Ext.refl _ | (apply And.left; assumption) | apply Ext.drew | apply Ext.alloc)), kb3 _ (by repeat (first | assumption | exact Ext.refl _ | (apply And.left; assumption) | apply Ext.drew | apply Ext.alloc))⟩) (first | (go_at_call 26; ((first | (with_reducible refine Calls.mono (cO _ (hE3.trans (by repeat (first | assumption | exact Ext.refl _ | (apply And.left; assumption) | apply Ext.drew | apply Ext.alloc)))) ?_)); rintro e wH ⟨rfl, hX⟩; have hH := Ext.trans (a := wL) (by repeat (first | assumption | exact Ext.refl _ | (apply And.left; assumption) | apply Ext.drew | apply Ext.alloc)) hX)) | (go_at_call 30; ((first | (with_reducible refine Calls.mono (cU _ (hE3.trans (by repeat (first | assumption | exact Ext.refl _ | (apply And.left; assumption) | apply Ext.drew | apply Ext.alloc)))) ?_)); rintro e wH ⟨rfl, hX⟩; have hH := Ext.trans (a := wL) (by repeat (first | assumption | exact Ext.refl _ | (apply And.left; assumption) | apply Ext.drew | apply Ext.alloc)) hX)) | (go_at_call 25; ((first | (with_reducible refine Calls.mono (cF _) ?_)); rintro e wH ⟨rfl, hX⟩; have hH := Ext.trans (a := wL) (by repeat (first | assumption | exact Ext.refl _ | (apply And.left; assumption) | apply Ext.drew | apply Ext.alloc)) hX)) | (go_at_call 29; ((first | (with_reducible refine Calls.mono (cI1g _) ?_) | (with_reducible refine Calls.mono (cI1 _) ?_)); rintro e wM ⟨rfl, hX⟩; have hHM := Ext.trans (a := wL) (by repeat (first | assumption | exact Ext.refl _ | (apply And.left; assumption) | apply Ext.drew | apply Ext.alloc)) hX)))) | (fail "the region")
    have hE4 := hE3.trans hHM
    have kb4 := hb _ hE4
    go_wp2_with (first | (go_at_call 31; refine (cP _ hE4).mono ?_; rintro e w5 ⟨rfl, hE5⟩; have hE45 := hE4.trans hE5) | (go_at_call 29; with_reducible refine Calls.mono (cI2 _) ?_; rintro e w6 ⟨rfl, hE6⟩; have hE56 := hE45.trans (Ext.trans ((Ext.refl _).alloc _) hE6)))
    go_ret
    exact ⟨ret_str Hfin.out.symm, hE0.trans hE56⟩
theorem sGroupLine_any (v : Value) (l : List Int) (w : World) (h : Ints w v l) :
    Calls Try.prog 5 #[.agg #[v]] w fun e w' => e = .returned (.string (grlF l)) ∧ Ext w w' := by
  obtain ⟨wb, hwb⟩ : ∃ wb, wb = w.alloc (.cells #[v] 27) := ⟨_, rfl⟩
  have hE0 := (Ext.refl w).alloc (.cells #[v] 27)
  have hb := box_cell w v 27
  rw [← hwb] at hE0 hb
  have hg : ∀ W, Ext wb W → Ints W v l := fun W hW => h.ext (hE0.trans hW)
  have hE := Ext.refl wb
  have Hsz : Hid (w.heap.size + 1 = wb.heap.size) := Lib.hid (by rw [hwb]; simp [go_sem])
  have Hwb := Lib.hid hwb
  clear hwb h
  have hbx := hb wb hE
  have cG0 := fun W (hW : Ext wb W) => sIsGroup_any v l W (hg W hW)
  cases hgr : isGrp l
  · rw [hgr] at cG0
    have Hs := Lib.hid (grl_no hgr)
    go_enter Try.func5, Try.ntmps5
    go_wp2_with fail
    rw [← Hwb.out]
    go_wp2_with (refine (cG0 _ hE).mono ?_; rintro e w1 ⟨rfl, hE1⟩)
    go_ret
    exact ⟨ret_str Hs.out.symm, hE0.trans hE1⟩
  rw [hgr] at cG0
  have Hgr := Lib.hid hgr
  have Hs := Lib.hid (grl_yes hgr)
  have hob := ord_bd hgr
  have hex := expK_le hgr (Nat.le_refl l.length)
  have hsg := sgL_len hgr
  have hdv := dvEnd_le hgr
  have hca := caF_bd l
  have sA := fgF9_size l
  have sB := fmtB_size (n := ((ord l : Nat) : Int)) (by omega)
  have sC := fmtB_size (n := ((expN l : Nat) : Int)) (by unfold expN; omega)
  have sD := fmtB_size (n := (((sgL l).length : Nat) : Int)) (by omega)
  have sE := fmtB_size (n := ((dvEnd dvT (natG l) : Nat) : Int)) (by omega)
  have sF := fmtB_size (n := caF l) (by omega)
  have cA := fun W (hW : Ext wb W) => sFormatGroup_any v l W (hg W hW)
  have cO := fun W (hW : Ext wb W) => l2Order_any v l W (hg W hW) Hgr
  have cX := fun W (hW : Ext wb W) => sExponentOf_grp v l W (hg W hW) Hgr
  have cV := fun W (hW : Ext wb W) => sDavenportBound_grp v l W (hg W hW) Hgr
  have cU := fun W (hW : Ext wb W) => sCountAutomorphisms_any v l W (hg W hW)
  have cP := fun W (hW : Ext wb W) => sIsPrimeOrder_grp v l W (hg W hW) Hgr
  have cS : ∀ W, Ext wb W → Calls Try.prog 11 #[.agg #[v]] W fun e w' => ∃ ao c n, n = (sgL l).length ∧ e = .returned (.tuple #[.slice ao n c, .bool true]) ∧ Ext W w' := fun W hW => (sSubgroupsOf_any v l W (hg W hW)).mono fun e w' ⟨ao, L, c, h1, _, h3, h4⟩ => ⟨ao, c, L.length, by rw [h3, if_pos hgr], by rw [h1, hgr], h4⟩
  simp only [show (if auB l then (autR l (ord l ^ l.length) : Int) else -1) = caF l from rfl] at cU
  have cB := fun W => sFormatInt_any ((ord l : Nat) : Int) (by omega) W
  have cC := fun W => sFormatInt_any ((expN l : Nat) : Int) (by unfold expN; omega) W
  have cD := fun W => sFormatInt_any (((sgL l).length : Nat) : Int) (by omega) W
  have cE := fun W => sFormatInt_any ((dvEnd dvT (natG l) : Nat) : Int) (by omega) W
  have cF := fun W => sFormatInt_any (caF l) (by omega) W
  obtain ⟨b2, hb2⟩ : ∃ x, x = primeB (ord l) := ⟨_, rfl⟩
  rw [← hb2] at Hs
  simp only [← hb2] at cP
  obtain ⟨A, hA⟩ : ∃ x, x = fgF l := ⟨_, rfl⟩
  obtain ⟨B, hB⟩ : ∃ x, x = fmtB ((ord l : Nat) : Int) := ⟨_, rfl⟩
  obtain ⟨C, hC⟩ : ∃ x, x = fmtB ((expN l : Nat) : Int) := ⟨_, rfl⟩
  obtain ⟨D, hD⟩ : ∃ x, x = fmtB (((sgL l).length : Nat) : Int) := ⟨_, rfl⟩
  obtain ⟨E, hE'⟩ : ∃ x, x = fmtB ((dvEnd dvT (natG l) : Nat) : Int) := ⟨_, rfl⟩
  obtain ⟨F, hF⟩ : ∃ x, x = fmtB (caF l) := ⟨_, rfl⟩
  rw [← hA, ← hB, ← hC, ← hD, ← hE', ← hF] at Hs
  simp only [← hA] at cA sA
  simp only [← hB] at cB sB
  simp only [← hC] at cC sC
  simp only [← hD] at cD sD
  simp only [← hE'] at cE sE
  simp only [← hF] at cF sF
  obtain ⟨ex, hex'⟩ : ∃ x, x = expN l := ⟨_, rfl⟩
  obtain ⟨sg, hsg'⟩ : ∃ x, x = (sgL l).length := ⟨_, rfl⟩
  obtain ⟨dv, hdv'⟩ : ∃ x, x = dvEnd dvT (natG l) := ⟨_, rfl⟩
  obtain ⟨ca, hca'⟩ : ∃ x, x = caF l := ⟨_, rfl⟩
  simp only [← hex'] at cX cC
  simp only [← hsg'] at cS cD
  simp only [← hdv'] at cV cE
  simp only [← hca'] at cU cF
  clear hb2 hA hB hC hD hE' hF hex' hsg' hdv' hca' hgr hex hsg hdv hca

  have cY := fun W => yes_any b2 (⟨#[32, 112, 114, 105, 109, 101]⟩ : ByteArray) W
  have zY : (if b2 then (⟨#[32, 112, 114, 105, 109, 101]⟩ : ByteArray) else (⟨#[]⟩ : ByteArray)).size ≤ 20 := by cases b2 <;> decide
  obtain ⟨y, hy⟩ : ∃ x, x = (if b2 then (⟨#[32, 112, 114, 105, 109, 101]⟩ : ByteArray) else (⟨#[]⟩ : ByteArray)) := ⟨_, rfl⟩
  rw [← hy] at cY zY
  have Hy := Lib.hid hy
  clear hy
  go_enter Try.func5, Try.ntmps5
  go_wp2_with fail
  rw [← Hwb.out]
  go_wp2_with (first | (go_at_call 10; refine (cG0 _ hE).mono ?_; rintro e w1 ⟨rfl, hE1⟩; have hb1 := hb _ hE1) | (go_at_call 11; refine (cS _ hE1).mono ?_; rintro e w2 ⟨aoS, cS2, nS, hnS, rfl, hE2⟩; subst hnS))
  have hE3 := hE1.trans hE2
  clear hE1 hE2 hb1 hbx
  have kc3 := fun U => hb _ (hE3.trans (lat_ext w2 U))
  replace hE := Ext.refl w2
  go_wp2_with fail
  (refine wp_region_lat (w2) (by kernel_rfl) (by kernel_rfl) hE ?_); (repeat (go_big_quiet_step (first | (go_at_call 12; with_reducible exact Calls.lat (cA _ (hE3.trans (lat_ext w2 _)))) | (go_at_call 14; with_reducible exact Calls.lat (cO _ (hE3.trans (lat_ext w2 _)))) | (go_at_call 13; first | with_reducible exact Calls.lat (cB _) | with_reducible exact Calls.lat (cC _) | with_reducible exact Calls.lat (cD _) | with_reducible exact Calls.lat (cE _)) | (go_at_call 15; with_reducible exact Calls.lat (cX _ (hE3.trans (lat_ext w2 _)))) | (go_at_call 16; with_reducible exact Calls.lat (cV _ (hE3.trans (lat_ext w2 _))))))); (refine wpQuiet_nil ?_); (intro W hE'); (replace hE := lat_of hE'); (clear hE')
  replace hE := hE3.trans hE
  have hb4 := hb _ hE
  by_cases h9 : ord l ≤ 9
  · have h9I : ((ord l : Nat) : Int) ≤ 9 := by omega
    rw [decide_eq_true h9] at Hs
    go_wp2_with (first | (go_at_call 14; refine (cO _ hE).mono ?_; rintro e w5 ⟨rfl, hE5⟩; have hE45 := hE.trans hE5; have hb5 := hb _ hE45) | (go_at_call 17; refine (cU _ hE45).mono ?_; rintro e w6 ⟨rfl, hE6⟩; have hE46 := hE45.trans hE6) | (go_at_call 13; refine (cF _).mono ?_; rintro e w7 ⟨rfl, hE7⟩; have hE47 := hE46.trans hE7; have hb7 := hb _ hE47) | (go_at_call 19; refine (cP _ hE47).mono ?_; rintro e w8 ⟨rfl, hE8⟩) | (go_at_call 18; refine (cY _).mono ?_; rintro e w' ⟨rfl, rfl⟩))
    go_ret
    exact ⟨ret_str (by rw [Hs.out, Hy.out]; rfl), hE0.trans (hE47.trans hE8)⟩
  · have h9I : ¬ ((ord l : Nat) : Int) ≤ 9 := by omega
    rw [decide_eq_false h9] at Hs
    go_wp2_with (first | (go_at_call 14; refine (cO _ hE).mono ?_; rintro e w5 ⟨rfl, hE5⟩; have hE45 := hE.trans hE5; have hb5 := hb _ hE45) | (go_at_call 19; refine (cP _ hE45).mono ?_; rintro e w8 ⟨rfl, hE8⟩) | (go_at_call 18; refine (cY _).mono ?_; rintro e w' ⟨rfl, rfl⟩))
    go_ret
    exact ⟨ret_str (by rw [Hs.out, Hy.out]; rfl), hE0.trans (hE45.trans hE8)⟩
end Go.Zz
