/- SetLine of the program and of the reference. -/
import Derived.Test.YtgkojfjbfmpaaaaGr3
import Derived.Test.YtgkojfjbfmpaaaaGr9
import Derived.Test.YtgkojfjbfmpaaaaGr15
import Derived.Deep.RegionHeld3
namespace Go.Zz
open Go.RowKit Go.Proofs
set_option maxHeartbeats 4000000
set_option maxRecDepth 20000

noncomputable def stlF (l : List Int) (n : Int) : ByteArray :=
  if isSetB l n then
    (fun (A B C D E F G : ByteArray) (b1 b2 b3 b4 : Bool) => ((((((((((((((((((⟨#[115, 101, 116, 32]⟩ : ByteArray) ++ A) ++ (⟨#[32, 115, 105, 122, 101, 32]⟩ : ByteArray)) ++ B) ++ (⟨#[32, 115, 116, 114, 117, 99, 116, 117, 114, 101, 32]⟩ : ByteArray)) ++ C) ++ (⟨#[32, 112, 101, 114, 105, 111, 100, 32]⟩ : ByteArray)) ++ D) ++ (⟨#[32, 103, 114, 111, 119, 116, 104, 32]⟩ : ByteArray)) ++ E) ++ (⟨#[32, 101, 110, 101, 114, 103, 121, 32]⟩ : ByteArray)) ++ F) ++ (⟨#[32, 108, 111, 110, 103, 101, 115, 116, 32]⟩ : ByteArray)) ++ G) ++ (if b1 then (⟨#[32, 115, 117, 109, 102, 114, 101, 101]⟩ : ByteArray) else (⟨#[]⟩ : ByteArray))) ++ (if b2 then (⟨#[32, 115, 105, 100, 111, 110]⟩ : ByteArray) else (⟨#[]⟩ : ByteArray))) ++ (if b3 then (⟨#[32, 97, 112, 102, 114, 101, 101]⟩ : ByteArray) else (⟨#[]⟩ : ByteArray))) ++ (if b4 then (⟨#[32, 98, 97, 115, 105, 115]⟩ : ByteArray) else (⟨#[]⟩ : ByteArray)))) (fsF l n) (fmtB (cnt n.toNat : Nat)) (stF l n) (fsF l (stabF l n.toNat : Nat)) (numF (castL (growL l n.toNat 4))) (fmtB (enF l n n)) (fmtB (lpF l n.toNat : Nat)) (decide (sumF l n.toNat n.toNat &&& n.toNat = 0)) (sidB l n) (apB l n) (basB l n.toNat)
  else ⟨#[]⟩
theorem stl_no {l : List Int} {n : Int} (h : isSetB l n = false) : stlF l n = ⟨#[]⟩ := by unfold stlF; rw [h]; rfl
theorem stl_yes {l : List Int} {n : Nat} (h : isSetB l (n : Int) = true) : stlF l (n : Int) = (fun (A B C D E F G : ByteArray) (b1 b2 b3 b4 : Bool) => ((((((((((((((((((⟨#[115, 101, 116, 32]⟩ : ByteArray) ++ A) ++ (⟨#[32, 115, 105, 122, 101, 32]⟩ : ByteArray)) ++ B) ++ (⟨#[32, 115, 116, 114, 117, 99, 116, 117, 114, 101, 32]⟩ : ByteArray)) ++ C) ++ (⟨#[32, 112, 101, 114, 105, 111, 100, 32]⟩ : ByteArray)) ++ D) ++ (⟨#[32, 103, 114, 111, 119, 116, 104, 32]⟩ : ByteArray)) ++ E) ++ (⟨#[32, 101, 110, 101, 114, 103, 121, 32]⟩ : ByteArray)) ++ F) ++ (⟨#[32, 108, 111, 110, 103, 101, 115, 116, 32]⟩ : ByteArray)) ++ G) ++ (if b1 then (⟨#[32, 115, 117, 109, 102, 114, 101, 101]⟩ : ByteArray) else (⟨#[]⟩ : ByteArray))) ++ (if b2 then (⟨#[32, 115, 105, 100, 111, 110]⟩ : ByteArray) else (⟨#[]⟩ : ByteArray))) ++ (if b3 then (⟨#[32, 97, 112, 102, 114, 101, 101]⟩ : ByteArray) else (⟨#[]⟩ : ByteArray))) ++ (if b4 then (⟨#[32, 98, 97, 115, 105, 115]⟩ : ByteArray) else (⟨#[]⟩ : ByteArray)))) (fsF l n) (fmtB (cnt n : Nat)) (stF l n) (fsF l (stabF l n : Nat)) (numF (castL (growL l n 4))) (fmtB (enF l n n)) (fmtB (lpF l n : Nat)) (decide (sumF l n n &&& n = 0)) (sidB l n) (apB l n) (basB l n) := by
  unfold stlF; rw [if_pos h]; rfl

theorem one_more (X : ByteArray) (b : Bool) (t u : ByteArray) (h : u = (⟨#[32]⟩ : ByteArray) ++ t) : (if b then lineF [X, t] else X) = X ++ (if b then u else (⟨#[]⟩ : ByteArray)) := by
  subst h
  apply bytes_ext
  cases b <;> simp [lineF, jn, nthS, spB, List.getD]
theorem jn_more (f : Nat → ByteArray) (k : Nat) : (jn spB f (k + 1)).size ≤ (jn spB f k).size + 1 + (f k).size := by
  show ((if 0 < k then jn spB f k ++ spB else jn spB f k) ++ f k).size ≤ _
  have e : spB.size = 1 := rfl
  split <;> (simp only [ByteArray.size_append]; omega)
theorem stl_head (A B C D E F G : ByteArray) : lineF [(⟨#[115, 101, 116]⟩ : ByteArray), A, (⟨#[115, 105, 122, 101]⟩ : ByteArray), B, (⟨#[115, 116, 114, 117, 99, 116, 117, 114, 101]⟩ : ByteArray), C, (⟨#[112, 101, 114, 105, 111, 100]⟩ : ByteArray), D, (⟨#[103, 114, 111, 119, 116, 104]⟩ : ByteArray), E, (⟨#[101, 110, 101, 114, 103, 121]⟩ : ByteArray), F, (⟨#[108, 111, 110, 103, 101, 115, 116]⟩ : ByteArray), G] = ((((((((((((((⟨#[115, 101, 116, 32]⟩ : ByteArray) ++ A) ++ (⟨#[32, 115, 105, 122, 101, 32]⟩ : ByteArray)) ++ B) ++ (⟨#[32, 115, 116, 114, 117, 99, 116, 117, 114, 101, 32]⟩ : ByteArray)) ++ C) ++ (⟨#[32, 112, 101, 114, 105, 111, 100, 32]⟩ : ByteArray)) ++ D) ++ (⟨#[32, 103, 114, 111, 119, 116, 104, 32]⟩ : ByteArray)) ++ E) ++ (⟨#[32, 101, 110, 101, 114, 103, 121, 32]⟩ : ByteArray)) ++ F) ++ (⟨#[32, 108, 111, 110, 103, 101, 115, 116, 32]⟩ : ByteArray)) ++ G) := by
  apply bytes_ext
  simp [lineF, jn, nthS, spB, List.getD]

theorem SetLine_any (v : Value) (l : List Int) (a : Int) (w : World) (h : Ints w v l) :
    Calls Try.prog 55 #[.agg #[v], .int .i64 a] w fun e w' => e = .returned (.string (stlF l a)) ∧ Ext w w' := by
  obtain ⟨wb, hwb⟩ : ∃ wb, wb = w.alloc (.cells #[v] 26) := ⟨_, rfl⟩
  have hE0 := (Ext.refl w).alloc (.cells #[v] 26)
  have hb := box_cell w v 26
  rw [← hwb] at hE0 hb
  have hg : ∀ W, Ext wb W → Ints W v l := fun W hW => h.ext (hE0.trans hW)
  have hE := Ext.refl wb
  have Hsz : Hid (w.heap.size + 1 = wb.heap.size) := Lib.hid (by rw [hwb]; simp [go_sem])
  have Hwb := Lib.hid hwb
  clear hwb h
  have hbx := hb wb hE
  cases hs : isSetB l a
  · have Hs := Lib.hid (stl_no hs)
    go_enter Try.func55, Try.ntmps55
    go_wp2_with fail
    rw [← Hwb.out]
    go_wp2_with (first | (go_at_call 66; refine (IsSet_val _ _ _ _ (hg _ hE) (hs)).mono ?_; rintro e w' ⟨rfl, hE'⟩; replace hE := hE.trans hE'; clear hE'))
    go_ret
    exact ⟨ret_str Hs.out.symm, hE0.trans hE⟩
  obtain ⟨n, rfl, h1, h2, hgr⟩ := isSetB_nat hs
  have Hgr := Lib.hid hgr
  have Hs := Lib.hid (stl_yes hs)
  have hcn := cnt_le n
  have hgi := grow_in l n
  have hlp := lpF_le l n
  have hen : 0 ≤ enF l n n ∧ enF l n n ≤ 7962624 := by
    rw [enF_yes (by rw [hs]; rfl)]
    have := sqTo_bd hgr n n (ord l); have := ord_bd hgr; omega
  have sA := fsF9_size l n
  have sB := fmtB_size (n := ((cnt n : Nat) : Int)) (by omega)
  have sC := stF_size l n
  have sD := fsF9_size l (stabF l n : Nat)
  have sE := numF9_size hgi.1 hgi.2
  have sF := fmtB_size (n := enF l n n) (by omega)
  have sG := fmtB_size (n := ((lpF l n : Nat) : Int)) (by omega)
  have cA := fun W (hW : Ext wb W) => FormatSet_any v l n W (hg W hW)
  have cB0 := fun W => bits_any n h2 W
  have cB := fun W => FormatInt_any ((cnt n : Nat) : Int) (by omega) W
  have cC := fun W (hW : Ext wb W) => StructureOf_any v l n W (hg W hW)
  have cD0 := fun W (hW : Ext wb W) => StabilizerOf_nat v l n W (hg W hW) hs
  have cD := fun W (hW : Ext wb W) => FormatSet_any v l (stabF l n : Nat) W (hg W hW)
  have cE0 := fun W (hW : Ext wb W) => GrowthOf_yes v l n W (hg W hW) hs
  have cE := fun u W (hu : Ints W u (castL (growL l n 4))) => numbers9_any u (castL (growL l n 4)) W hu hgi.1 (by omega)
  have cF0 := fun W (hW : Ext wb W) => EnergyOf_any v l n n W (hg W hW)
  have cF := fun W => FormatInt_any (enF l n n) (by omega) W
  have cG0 := fun W (hW : Ext wb W) => LongestProgression_yes v l n W (hg W hW) hs
  have cG := fun W => FormatInt_any ((lpF l n : Nat) : Int) (by omega) W
  have c1 : ∀ W, Ext wb W → Calls Try.prog 117 #[.agg #[v], .int .i64 n] W fun e w' => e = .returned (.bool (decide (sumF l n n &&& n = 0))) ∧ Ext W w' := fun W hW => (IsSumFree_any v l (n : Int) W (hg W hW)).mono fun e w' ⟨r1, r2⟩ => ⟨by first | (rw [r1]; done) | (rw [r1]; simp [hs]), r2⟩
  have c2 := fun W (hW : Ext wb W) => IsSidon_any v l n W (hg W hW)
  have c3 := fun W (hW : Ext wb W) => IsApFree_any v l n W (hg W hW)
  have c4 := fun W (hW : Ext wb W) => IsBasis_yes v l n W (hg W hW) hs
  obtain ⟨b1, hb1⟩ : ∃ x, x = decide (sumF l n n &&& n = 0) := ⟨_, rfl⟩
  obtain ⟨b2, hb2⟩ : ∃ x, x = sidB l n := ⟨_, rfl⟩
  obtain ⟨b3, hb3⟩ : ∃ x, x = apB l n := ⟨_, rfl⟩
  obtain ⟨b4, hb4⟩ : ∃ x, x = basB l n := ⟨_, rfl⟩
  rw [← hb1, ← hb2, ← hb3, ← hb4] at Hs
  simp only [← hb1] at c1
  simp only [← hb2] at c2
  simp only [← hb3] at c3
  simp only [← hb4] at c4
  obtain ⟨A, hA⟩ : ∃ x, x = fsF l n := ⟨_, rfl⟩
  obtain ⟨B, hB⟩ : ∃ x, x = fmtB ((cnt n : Nat) : Int) := ⟨_, rfl⟩
  obtain ⟨C, hC⟩ : ∃ x, x = stF l n := ⟨_, rfl⟩
  obtain ⟨D, hD⟩ : ∃ x, x = fsF l (stabF l n : Nat) := ⟨_, rfl⟩
  obtain ⟨E, hE'⟩ : ∃ x, x = numF (castL (growL l n 4)) := ⟨_, rfl⟩
  obtain ⟨F, hF⟩ : ∃ x, x = fmtB (enF l n n) := ⟨_, rfl⟩
  obtain ⟨G, hG⟩ : ∃ x, x = fmtB ((lpF l n : Nat) : Int) := ⟨_, rfl⟩
  rw [← hA, ← hB, ← hC, ← hD, ← hE', ← hF, ← hG] at Hs
  simp only [← hA] at cA sA
  simp only [← hB] at cB sB
  simp only [← hC] at cC sC
  simp only [← hD] at cD sD
  simp only [← hE'] at cE sE
  simp only [← hF] at cF sF
  simp only [← hG] at cG sG
  obtain ⟨cn, hcn'⟩ : ∃ x, x = cnt n := ⟨_, rfl⟩
  obtain ⟨st, hst⟩ : ∃ x, x = stabF l n := ⟨_, rfl⟩
  obtain ⟨en, hen'⟩ : ∃ x, x = enF l n n := ⟨_, rfl⟩
  obtain ⟨lp, hlp'⟩ : ∃ x, x = lpF l n := ⟨_, rfl⟩
  obtain ⟨gr, hgr'⟩ : ∃ x, x = castL (growL l n 4) := ⟨_, rfl⟩
  simp only [← hcn'] at cB0 cB
  simp only [← hst] at cD0 cD
  simp only [← hen'] at cF0 cF
  simp only [← hlp'] at cG0 cG
  simp only [← hgr'] at cE0 cE
  clear hb1 hb2 hb3 hb4 hA hB hC hD hE' hF hG hcn' hst hen' hlp' hgr' hcn hgi hlp hen hgr h1

  have hln_X0 : ∀ i, i < ([(⟨#[115, 101, 116]⟩ : ByteArray), A, (⟨#[115, 105, 122, 101]⟩ : ByteArray), B, (⟨#[115, 116, 114, 117, 99, 116, 117, 114, 101]⟩ : ByteArray), C, (⟨#[112, 101, 114, 105, 111, 100]⟩ : ByteArray), D, (⟨#[103, 114, 111, 119, 116, 104]⟩ : ByteArray), E, (⟨#[101, 110, 101, 114, 103, 121]⟩ : ByteArray), F, (⟨#[108, 111, 110, 103, 101, 115, 116]⟩ : ByteArray), G] : List ByteArray).length → (nthS [(⟨#[115, 101, 116]⟩ : ByteArray), A, (⟨#[115, 105, 122, 101]⟩ : ByteArray), B, (⟨#[115, 116, 114, 117, 99, 116, 117, 114, 101]⟩ : ByteArray), C, (⟨#[112, 101, 114, 105, 111, 100]⟩ : ByteArray), D, (⟨#[103, 114, 111, 119, 116, 104]⟩ : ByteArray), E, (⟨#[101, 110, 101, 114, 103, 121]⟩ : ByteArray), F, (⟨#[108, 111, 110, 103, 101, 115, 116]⟩ : ByteArray), G] i).size ≤ 5000 := by
    intro i hi
    match i, hi with
    | 0, _ => exact (by decide : ((⟨#[115, 101, 116]⟩ : ByteArray) : ByteArray).size ≤ 5000)
    | 1, _ => exact Nat.le_trans sA (by decide)
    | 2, _ => exact (by decide : ((⟨#[115, 105, 122, 101]⟩ : ByteArray) : ByteArray).size ≤ 5000)
    | 3, _ => exact Nat.le_trans sB (by decide)
    | 4, _ => exact (by decide : ((⟨#[115, 116, 114, 117, 99, 116, 117, 114, 101]⟩ : ByteArray) : ByteArray).size ≤ 5000)
    | 5, _ => exact Nat.le_trans sC (by decide)
    | 6, _ => exact (by decide : ((⟨#[112, 101, 114, 105, 111, 100]⟩ : ByteArray) : ByteArray).size ≤ 5000)
    | 7, _ => exact Nat.le_trans sD (by decide)
    | 8, _ => exact (by decide : ((⟨#[103, 114, 111, 119, 116, 104]⟩ : ByteArray) : ByteArray).size ≤ 5000)
    | 9, _ => exact Nat.le_trans sE (by decide)
    | 10, _ => exact (by decide : ((⟨#[101, 110, 101, 114, 103, 121]⟩ : ByteArray) : ByteArray).size ≤ 5000)
    | 11, _ => exact Nat.le_trans sF (by decide)
    | 12, _ => exact (by decide : ((⟨#[108, 111, 110, 103, 101, 115, 116]⟩ : ByteArray) : ByteArray).size ≤ 5000)
    | 13, _ => exact Nat.le_trans sG (by decide)
  obtain ⟨X0, hX0⟩ : ∃ x, x = lineF [(⟨#[115, 101, 116]⟩ : ByteArray), A, (⟨#[115, 105, 122, 101]⟩ : ByteArray), B, (⟨#[115, 116, 114, 117, 99, 116, 117, 114, 101]⟩ : ByteArray), C, (⟨#[112, 101, 114, 105, 111, 100]⟩ : ByteArray), D, (⟨#[103, 114, 111, 119, 116, 104]⟩ : ByteArray), E, (⟨#[101, 110, 101, 114, 103, 121]⟩ : ByteArray), F, (⟨#[108, 111, 110, 103, 101, 115, 116]⟩ : ByteArray), G] := ⟨_, rfl⟩
  have cL0 : ∀ (W : World), Calls Try.prog 108 #[.slice (some ⟨W.heap.size, 0, none⟩) 14 14] (W.alloc (.cells #[.string (⟨#[115, 101, 116]⟩ : ByteArray), .string A, .string (⟨#[115, 105, 122, 101]⟩ : ByteArray), .string B, .string (⟨#[115, 116, 114, 117, 99, 116, 117, 114, 101]⟩ : ByteArray), .string C, .string (⟨#[112, 101, 114, 105, 111, 100]⟩ : ByteArray), .string D, .string (⟨#[103, 114, 111, 119, 116, 104]⟩ : ByteArray), .string E, .string (⟨#[101, 110, 101, 114, 103, 121]⟩ : ByteArray), .string F, .string (⟨#[108, 111, 110, 103, 101, 115, 116]⟩ : ByteArray), .string G] 9)) fun e w' => e = .returned (.string X0) ∧ Ext (W.alloc (.cells #[.string (⟨#[115, 101, 116]⟩ : ByteArray), .string A, .string (⟨#[115, 105, 122, 101]⟩ : ByteArray), .string B, .string (⟨#[115, 116, 114, 117, 99, 116, 117, 114, 101]⟩ : ByteArray), .string C, .string (⟨#[112, 101, 114, 105, 111, 100]⟩ : ByteArray), .string D, .string (⟨#[103, 114, 111, 119, 116, 104]⟩ : ByteArray), .string E, .string (⟨#[101, 110, 101, 114, 103, 121]⟩ : ByteArray), .string F, .string (⟨#[108, 111, 110, 103, 101, 115, 116]⟩ : ByteArray), .string G] 9)) w' := fun W =>
    (line_any _ _ _ (strs_lit W [(⟨#[115, 101, 116]⟩ : ByteArray), A, (⟨#[115, 105, 122, 101]⟩ : ByteArray), B, (⟨#[115, 116, 114, 117, 99, 116, 117, 114, 101]⟩ : ByteArray), C, (⟨#[112, 101, 114, 105, 111, 100]⟩ : ByteArray), D, (⟨#[103, 114, 111, 119, 116, 104]⟩ : ByteArray), E, (⟨#[101, 110, 101, 114, 103, 121]⟩ : ByteArray), F, (⟨#[108, 111, 110, 103, 101, 115, 116]⟩ : ByteArray), G] 9 (by simp)) hln_X0 (by simp)).mono fun e w' ⟨h1, h2⟩ => ⟨by rw [h1, hX0], by rw [← h2]; exact Ext.refl _⟩
  have z0 : X0.size ≤ 2200 := by
    rw [hX0]
    obtain ⟨P, hP⟩ : ∃ x, x = ([(⟨#[115, 101, 116]⟩ : ByteArray), A, (⟨#[115, 105, 122, 101]⟩ : ByteArray), B, (⟨#[115, 116, 114, 117, 99, 116, 117, 114, 101]⟩ : ByteArray), C, (⟨#[112, 101, 114, 105, 111, 100]⟩ : ByteArray), D, (⟨#[103, 114, 111, 119, 116, 104]⟩ : ByteArray), E, (⟨#[101, 110, 101, 114, 103, 121]⟩ : ByteArray), F, (⟨#[108, 111, 110, 103, 101, 115, 116]⟩ : ByteArray), G] : List ByteArray) := ⟨_, rfl⟩
    show (jn spB (nthS [(⟨#[115, 101, 116]⟩ : ByteArray), A, (⟨#[115, 105, 122, 101]⟩ : ByteArray), B, (⟨#[115, 116, 114, 117, 99, 116, 117, 114, 101]⟩ : ByteArray), C, (⟨#[112, 101, 114, 105, 111, 100]⟩ : ByteArray), D, (⟨#[103, 114, 111, 119, 116, 104]⟩ : ByteArray), E, (⟨#[101, 110, 101, 114, 103, 121]⟩ : ByteArray), F, (⟨#[108, 111, 110, 103, 101, 115, 116]⟩ : ByteArray), G]) 14).size ≤ 2200
    have q : (jn spB (nthS [(⟨#[115, 101, 116]⟩ : ByteArray), A, (⟨#[115, 105, 122, 101]⟩ : ByteArray), B, (⟨#[115, 116, 114, 117, 99, 116, 117, 114, 101]⟩ : ByteArray), C, (⟨#[112, 101, 114, 105, 111, 100]⟩ : ByteArray), D, (⟨#[103, 114, 111, 119, 116, 104]⟩ : ByteArray), E, (⟨#[101, 110, 101, 114, 103, 121]⟩ : ByteArray), F, (⟨#[108, 111, 110, 103, 101, 115, 116]⟩ : ByteArray), G]) 0).size = 0 := rfl
    have p0 : (nthS [(⟨#[115, 101, 116]⟩ : ByteArray), A, (⟨#[115, 105, 122, 101]⟩ : ByteArray), B, (⟨#[115, 116, 114, 117, 99, 116, 117, 114, 101]⟩ : ByteArray), C, (⟨#[112, 101, 114, 105, 111, 100]⟩ : ByteArray), D, (⟨#[103, 114, 111, 119, 116, 104]⟩ : ByteArray), E, (⟨#[101, 110, 101, 114, 103, 121]⟩ : ByteArray), F, (⟨#[108, 111, 110, 103, 101, 115, 116]⟩ : ByteArray), G] 0).size ≤ 20 := (by decide : ((⟨#[115, 101, 116]⟩ : ByteArray) : ByteArray).size ≤ 20)
    have p1 : (nthS [(⟨#[115, 101, 116]⟩ : ByteArray), A, (⟨#[115, 105, 122, 101]⟩ : ByteArray), B, (⟨#[115, 116, 114, 117, 99, 116, 117, 114, 101]⟩ : ByteArray), C, (⟨#[112, 101, 114, 105, 111, 100]⟩ : ByteArray), D, (⟨#[103, 114, 111, 119, 116, 104]⟩ : ByteArray), E, (⟨#[101, 110, 101, 114, 103, 121]⟩ : ByteArray), F, (⟨#[108, 111, 110, 103, 101, 115, 116]⟩ : ByteArray), G] 1).size ≤ 560 := sA
    have p2 : (nthS [(⟨#[115, 101, 116]⟩ : ByteArray), A, (⟨#[115, 105, 122, 101]⟩ : ByteArray), B, (⟨#[115, 116, 114, 117, 99, 116, 117, 114, 101]⟩ : ByteArray), C, (⟨#[112, 101, 114, 105, 111, 100]⟩ : ByteArray), D, (⟨#[103, 114, 111, 119, 116, 104]⟩ : ByteArray), E, (⟨#[101, 110, 101, 114, 103, 121]⟩ : ByteArray), F, (⟨#[108, 111, 110, 103, 101, 115, 116]⟩ : ByteArray), G] 2).size ≤ 20 := (by decide : ((⟨#[115, 105, 122, 101]⟩ : ByteArray) : ByteArray).size ≤ 20)
    have p3 : (nthS [(⟨#[115, 101, 116]⟩ : ByteArray), A, (⟨#[115, 105, 122, 101]⟩ : ByteArray), B, (⟨#[115, 116, 114, 117, 99, 116, 117, 114, 101]⟩ : ByteArray), C, (⟨#[112, 101, 114, 105, 111, 100]⟩ : ByteArray), D, (⟨#[103, 114, 111, 119, 116, 104]⟩ : ByteArray), E, (⟨#[101, 110, 101, 114, 103, 121]⟩ : ByteArray), F, (⟨#[108, 111, 110, 103, 101, 115, 116]⟩ : ByteArray), G] 3).size ≤ 13 := sB
    have p4 : (nthS [(⟨#[115, 101, 116]⟩ : ByteArray), A, (⟨#[115, 105, 122, 101]⟩ : ByteArray), B, (⟨#[115, 116, 114, 117, 99, 116, 117, 114, 101]⟩ : ByteArray), C, (⟨#[112, 101, 114, 105, 111, 100]⟩ : ByteArray), D, (⟨#[103, 114, 111, 119, 116, 104]⟩ : ByteArray), E, (⟨#[101, 110, 101, 114, 103, 121]⟩ : ByteArray), F, (⟨#[108, 111, 110, 103, 101, 115, 116]⟩ : ByteArray), G] 4).size ≤ 20 := (by decide : ((⟨#[115, 116, 114, 117, 99, 116, 117, 114, 101]⟩ : ByteArray) : ByteArray).size ≤ 20)
    have p5 : (nthS [(⟨#[115, 101, 116]⟩ : ByteArray), A, (⟨#[115, 105, 122, 101]⟩ : ByteArray), B, (⟨#[115, 116, 114, 117, 99, 116, 117, 114, 101]⟩ : ByteArray), C, (⟨#[112, 101, 114, 105, 111, 100]⟩ : ByteArray), D, (⟨#[103, 114, 111, 119, 116, 104]⟩ : ByteArray), E, (⟨#[101, 110, 101, 114, 103, 121]⟩ : ByteArray), F, (⟨#[108, 111, 110, 103, 101, 115, 116]⟩ : ByteArray), G] 5).size ≤ 20 := sC
    have p6 : (nthS [(⟨#[115, 101, 116]⟩ : ByteArray), A, (⟨#[115, 105, 122, 101]⟩ : ByteArray), B, (⟨#[115, 116, 114, 117, 99, 116, 117, 114, 101]⟩ : ByteArray), C, (⟨#[112, 101, 114, 105, 111, 100]⟩ : ByteArray), D, (⟨#[103, 114, 111, 119, 116, 104]⟩ : ByteArray), E, (⟨#[101, 110, 101, 114, 103, 121]⟩ : ByteArray), F, (⟨#[108, 111, 110, 103, 101, 115, 116]⟩ : ByteArray), G] 6).size ≤ 20 := (by decide : ((⟨#[112, 101, 114, 105, 111, 100]⟩ : ByteArray) : ByteArray).size ≤ 20)
    have p7 : (nthS [(⟨#[115, 101, 116]⟩ : ByteArray), A, (⟨#[115, 105, 122, 101]⟩ : ByteArray), B, (⟨#[115, 116, 114, 117, 99, 116, 117, 114, 101]⟩ : ByteArray), C, (⟨#[112, 101, 114, 105, 111, 100]⟩ : ByteArray), D, (⟨#[103, 114, 111, 119, 116, 104]⟩ : ByteArray), E, (⟨#[101, 110, 101, 114, 103, 121]⟩ : ByteArray), F, (⟨#[108, 111, 110, 103, 101, 115, 116]⟩ : ByteArray), G] 7).size ≤ 560 := sD
    have p8 : (nthS [(⟨#[115, 101, 116]⟩ : ByteArray), A, (⟨#[115, 105, 122, 101]⟩ : ByteArray), B, (⟨#[115, 116, 114, 117, 99, 116, 117, 114, 101]⟩ : ByteArray), C, (⟨#[112, 101, 114, 105, 111, 100]⟩ : ByteArray), D, (⟨#[103, 114, 111, 119, 116, 104]⟩ : ByteArray), E, (⟨#[101, 110, 101, 114, 103, 121]⟩ : ByteArray), F, (⟨#[108, 111, 110, 103, 101, 115, 116]⟩ : ByteArray), G] 8).size ≤ 20 := (by decide : ((⟨#[103, 114, 111, 119, 116, 104]⟩ : ByteArray) : ByteArray).size ≤ 20)
    have p9 : (nthS [(⟨#[115, 101, 116]⟩ : ByteArray), A, (⟨#[115, 105, 122, 101]⟩ : ByteArray), B, (⟨#[115, 116, 114, 117, 99, 116, 117, 114, 101]⟩ : ByteArray), C, (⟨#[112, 101, 114, 105, 111, 100]⟩ : ByteArray), D, (⟨#[103, 114, 111, 119, 116, 104]⟩ : ByteArray), E, (⟨#[101, 110, 101, 114, 103, 121]⟩ : ByteArray), F, (⟨#[108, 111, 110, 103, 101, 115, 116]⟩ : ByteArray), G] 9).size ≤ 560 := sE
    have p10 : (nthS [(⟨#[115, 101, 116]⟩ : ByteArray), A, (⟨#[115, 105, 122, 101]⟩ : ByteArray), B, (⟨#[115, 116, 114, 117, 99, 116, 117, 114, 101]⟩ : ByteArray), C, (⟨#[112, 101, 114, 105, 111, 100]⟩ : ByteArray), D, (⟨#[103, 114, 111, 119, 116, 104]⟩ : ByteArray), E, (⟨#[101, 110, 101, 114, 103, 121]⟩ : ByteArray), F, (⟨#[108, 111, 110, 103, 101, 115, 116]⟩ : ByteArray), G] 10).size ≤ 20 := (by decide : ((⟨#[101, 110, 101, 114, 103, 121]⟩ : ByteArray) : ByteArray).size ≤ 20)
    have p11 : (nthS [(⟨#[115, 101, 116]⟩ : ByteArray), A, (⟨#[115, 105, 122, 101]⟩ : ByteArray), B, (⟨#[115, 116, 114, 117, 99, 116, 117, 114, 101]⟩ : ByteArray), C, (⟨#[112, 101, 114, 105, 111, 100]⟩ : ByteArray), D, (⟨#[103, 114, 111, 119, 116, 104]⟩ : ByteArray), E, (⟨#[101, 110, 101, 114, 103, 121]⟩ : ByteArray), F, (⟨#[108, 111, 110, 103, 101, 115, 116]⟩ : ByteArray), G] 11).size ≤ 13 := sF
    have p12 : (nthS [(⟨#[115, 101, 116]⟩ : ByteArray), A, (⟨#[115, 105, 122, 101]⟩ : ByteArray), B, (⟨#[115, 116, 114, 117, 99, 116, 117, 114, 101]⟩ : ByteArray), C, (⟨#[112, 101, 114, 105, 111, 100]⟩ : ByteArray), D, (⟨#[103, 114, 111, 119, 116, 104]⟩ : ByteArray), E, (⟨#[101, 110, 101, 114, 103, 121]⟩ : ByteArray), F, (⟨#[108, 111, 110, 103, 101, 115, 116]⟩ : ByteArray), G] 12).size ≤ 20 := (by decide : ((⟨#[108, 111, 110, 103, 101, 115, 116]⟩ : ByteArray) : ByteArray).size ≤ 20)
    have p13 : (nthS [(⟨#[115, 101, 116]⟩ : ByteArray), A, (⟨#[115, 105, 122, 101]⟩ : ByteArray), B, (⟨#[115, 116, 114, 117, 99, 116, 117, 114, 101]⟩ : ByteArray), C, (⟨#[112, 101, 114, 105, 111, 100]⟩ : ByteArray), D, (⟨#[103, 114, 111, 119, 116, 104]⟩ : ByteArray), E, (⟨#[101, 110, 101, 114, 103, 121]⟩ : ByteArray), F, (⟨#[108, 111, 110, 103, 101, 115, 116]⟩ : ByteArray), G] 13).size ≤ 13 := sG
    have r0 : (jn spB (nthS [(⟨#[115, 101, 116]⟩ : ByteArray), A, (⟨#[115, 105, 122, 101]⟩ : ByteArray), B, (⟨#[115, 116, 114, 117, 99, 116, 117, 114, 101]⟩ : ByteArray), C, (⟨#[112, 101, 114, 105, 111, 100]⟩ : ByteArray), D, (⟨#[103, 114, 111, 119, 116, 104]⟩ : ByteArray), E, (⟨#[101, 110, 101, 114, 103, 121]⟩ : ByteArray), F, (⟨#[108, 111, 110, 103, 101, 115, 116]⟩ : ByteArray), G]) 1).size ≤ (jn spB (nthS [(⟨#[115, 101, 116]⟩ : ByteArray), A, (⟨#[115, 105, 122, 101]⟩ : ByteArray), B, (⟨#[115, 116, 114, 117, 99, 116, 117, 114, 101]⟩ : ByteArray), C, (⟨#[112, 101, 114, 105, 111, 100]⟩ : ByteArray), D, (⟨#[103, 114, 111, 119, 116, 104]⟩ : ByteArray), E, (⟨#[101, 110, 101, 114, 103, 121]⟩ : ByteArray), F, (⟨#[108, 111, 110, 103, 101, 115, 116]⟩ : ByteArray), G]) 0).size + 1 + (nthS [(⟨#[115, 101, 116]⟩ : ByteArray), A, (⟨#[115, 105, 122, 101]⟩ : ByteArray), B, (⟨#[115, 116, 114, 117, 99, 116, 117, 114, 101]⟩ : ByteArray), C, (⟨#[112, 101, 114, 105, 111, 100]⟩ : ByteArray), D, (⟨#[103, 114, 111, 119, 116, 104]⟩ : ByteArray), E, (⟨#[101, 110, 101, 114, 103, 121]⟩ : ByteArray), F, (⟨#[108, 111, 110, 103, 101, 115, 116]⟩ : ByteArray), G] 0).size := jn_more (nthS [(⟨#[115, 101, 116]⟩ : ByteArray), A, (⟨#[115, 105, 122, 101]⟩ : ByteArray), B, (⟨#[115, 116, 114, 117, 99, 116, 117, 114, 101]⟩ : ByteArray), C, (⟨#[112, 101, 114, 105, 111, 100]⟩ : ByteArray), D, (⟨#[103, 114, 111, 119, 116, 104]⟩ : ByteArray), E, (⟨#[101, 110, 101, 114, 103, 121]⟩ : ByteArray), F, (⟨#[108, 111, 110, 103, 101, 115, 116]⟩ : ByteArray), G]) 0
    have r1 : (jn spB (nthS [(⟨#[115, 101, 116]⟩ : ByteArray), A, (⟨#[115, 105, 122, 101]⟩ : ByteArray), B, (⟨#[115, 116, 114, 117, 99, 116, 117, 114, 101]⟩ : ByteArray), C, (⟨#[112, 101, 114, 105, 111, 100]⟩ : ByteArray), D, (⟨#[103, 114, 111, 119, 116, 104]⟩ : ByteArray), E, (⟨#[101, 110, 101, 114, 103, 121]⟩ : ByteArray), F, (⟨#[108, 111, 110, 103, 101, 115, 116]⟩ : ByteArray), G]) 2).size ≤ (jn spB (nthS [(⟨#[115, 101, 116]⟩ : ByteArray), A, (⟨#[115, 105, 122, 101]⟩ : ByteArray), B, (⟨#[115, 116, 114, 117, 99, 116, 117, 114, 101]⟩ : ByteArray), C, (⟨#[112, 101, 114, 105, 111, 100]⟩ : ByteArray), D, (⟨#[103, 114, 111, 119, 116, 104]⟩ : ByteArray), E, (⟨#[101, 110, 101, 114, 103, 121]⟩ : ByteArray), F, (⟨#[108, 111, 110, 103, 101, 115, 116]⟩ : ByteArray), G]) 1).size + 1 + (nthS [(⟨#[115, 101, 116]⟩ : ByteArray), A, (⟨#[115, 105, 122, 101]⟩ : ByteArray), B, (⟨#[115, 116, 114, 117, 99, 116, 117, 114, 101]⟩ : ByteArray), C, (⟨#[112, 101, 114, 105, 111, 100]⟩ : ByteArray), D, (⟨#[103, 114, 111, 119, 116, 104]⟩ : ByteArray), E, (⟨#[101, 110, 101, 114, 103, 121]⟩ : ByteArray), F, (⟨#[108, 111, 110, 103, 101, 115, 116]⟩ : ByteArray), G] 1).size := jn_more (nthS [(⟨#[115, 101, 116]⟩ : ByteArray), A, (⟨#[115, 105, 122, 101]⟩ : ByteArray), B, (⟨#[115, 116, 114, 117, 99, 116, 117, 114, 101]⟩ : ByteArray), C, (⟨#[112, 101, 114, 105, 111, 100]⟩ : ByteArray), D, (⟨#[103, 114, 111, 119, 116, 104]⟩ : ByteArray), E, (⟨#[101, 110, 101, 114, 103, 121]⟩ : ByteArray), F, (⟨#[108, 111, 110, 103, 101, 115, 116]⟩ : ByteArray), G]) 1
    have r2 : (jn spB (nthS [(⟨#[115, 101, 116]⟩ : ByteArray), A, (⟨#[115, 105, 122, 101]⟩ : ByteArray), B, (⟨#[115, 116, 114, 117, 99, 116, 117, 114, 101]⟩ : ByteArray), C, (⟨#[112, 101, 114, 105, 111, 100]⟩ : ByteArray), D, (⟨#[103, 114, 111, 119, 116, 104]⟩ : ByteArray), E, (⟨#[101, 110, 101, 114, 103, 121]⟩ : ByteArray), F, (⟨#[108, 111, 110, 103, 101, 115, 116]⟩ : ByteArray), G]) 3).size ≤ (jn spB (nthS [(⟨#[115, 101, 116]⟩ : ByteArray), A, (⟨#[115, 105, 122, 101]⟩ : ByteArray), B, (⟨#[115, 116, 114, 117, 99, 116, 117, 114, 101]⟩ : ByteArray), C, (⟨#[112, 101, 114, 105, 111, 100]⟩ : ByteArray), D, (⟨#[103, 114, 111, 119, 116, 104]⟩ : ByteArray), E, (⟨#[101, 110, 101, 114, 103, 121]⟩ : ByteArray), F, (⟨#[108, 111, 110, 103, 101, 115, 116]⟩ : ByteArray), G]) 2).size + 1 + (nthS [(⟨#[115, 101, 116]⟩ : ByteArray), A, (⟨#[115, 105, 122, 101]⟩ : ByteArray), B, (⟨#[115, 116, 114, 117, 99, 116, 117, 114, 101]⟩ : ByteArray), C, (⟨#[112, 101, 114, 105, 111, 100]⟩ : ByteArray), D, (⟨#[103, 114, 111, 119, 116, 104]⟩ : ByteArray), E, (⟨#[101, 110, 101, 114, 103, 121]⟩ : ByteArray), F, (⟨#[108, 111, 110, 103, 101, 115, 116]⟩ : ByteArray), G] 2).size := jn_more (nthS [(⟨#[115, 101, 116]⟩ : ByteArray), A, (⟨#[115, 105, 122, 101]⟩ : ByteArray), B, (⟨#[115, 116, 114, 117, 99, 116, 117, 114, 101]⟩ : ByteArray), C, (⟨#[112, 101, 114, 105, 111, 100]⟩ : ByteArray), D, (⟨#[103, 114, 111, 119, 116, 104]⟩ : ByteArray), E, (⟨#[101, 110, 101, 114, 103, 121]⟩ : ByteArray), F, (⟨#[108, 111, 110, 103, 101, 115, 116]⟩ : ByteArray), G]) 2
    have r3 : (jn spB (nthS [(⟨#[115, 101, 116]⟩ : ByteArray), A, (⟨#[115, 105, 122, 101]⟩ : ByteArray), B, (⟨#[115, 116, 114, 117, 99, 116, 117, 114, 101]⟩ : ByteArray), C, (⟨#[112, 101, 114, 105, 111, 100]⟩ : ByteArray), D, (⟨#[103, 114, 111, 119, 116, 104]⟩ : ByteArray), E, (⟨#[101, 110, 101, 114, 103, 121]⟩ : ByteArray), F, (⟨#[108, 111, 110, 103, 101, 115, 116]⟩ : ByteArray), G]) 4).size ≤ (jn spB (nthS [(⟨#[115, 101, 116]⟩ : ByteArray), A, (⟨#[115, 105, 122, 101]⟩ : ByteArray), B, (⟨#[115, 116, 114, 117, 99, 116, 117, 114, 101]⟩ : ByteArray), C, (⟨#[112, 101, 114, 105, 111, 100]⟩ : ByteArray), D, (⟨#[103, 114, 111, 119, 116, 104]⟩ : ByteArray), E, (⟨#[101, 110, 101, 114, 103, 121]⟩ : ByteArray), F, (⟨#[108, 111, 110, 103, 101, 115, 116]⟩ : ByteArray), G]) 3).size + 1 + (nthS [(⟨#[115, 101, 116]⟩ : ByteArray), A, (⟨#[115, 105, 122, 101]⟩ : ByteArray), B, (⟨#[115, 116, 114, 117, 99, 116, 117, 114, 101]⟩ : ByteArray), C, (⟨#[112, 101, 114, 105, 111, 100]⟩ : ByteArray), D, (⟨#[103, 114, 111, 119, 116, 104]⟩ : ByteArray), E, (⟨#[101, 110, 101, 114, 103, 121]⟩ : ByteArray), F, (⟨#[108, 111, 110, 103, 101, 115, 116]⟩ : ByteArray), G] 3).size := jn_more (nthS [(⟨#[115, 101, 116]⟩ : ByteArray), A, (⟨#[115, 105, 122, 101]⟩ : ByteArray), B, (⟨#[115, 116, 114, 117, 99, 116, 117, 114, 101]⟩ : ByteArray), C, (⟨#[112, 101, 114, 105, 111, 100]⟩ : ByteArray), D, (⟨#[103, 114, 111, 119, 116, 104]⟩ : ByteArray), E, (⟨#[101, 110, 101, 114, 103, 121]⟩ : ByteArray), F, (⟨#[108, 111, 110, 103, 101, 115, 116]⟩ : ByteArray), G]) 3
    have r4 : (jn spB (nthS [(⟨#[115, 101, 116]⟩ : ByteArray), A, (⟨#[115, 105, 122, 101]⟩ : ByteArray), B, (⟨#[115, 116, 114, 117, 99, 116, 117, 114, 101]⟩ : ByteArray), C, (⟨#[112, 101, 114, 105, 111, 100]⟩ : ByteArray), D, (⟨#[103, 114, 111, 119, 116, 104]⟩ : ByteArray), E, (⟨#[101, 110, 101, 114, 103, 121]⟩ : ByteArray), F, (⟨#[108, 111, 110, 103, 101, 115, 116]⟩ : ByteArray), G]) 5).size ≤ (jn spB (nthS [(⟨#[115, 101, 116]⟩ : ByteArray), A, (⟨#[115, 105, 122, 101]⟩ : ByteArray), B, (⟨#[115, 116, 114, 117, 99, 116, 117, 114, 101]⟩ : ByteArray), C, (⟨#[112, 101, 114, 105, 111, 100]⟩ : ByteArray), D, (⟨#[103, 114, 111, 119, 116, 104]⟩ : ByteArray), E, (⟨#[101, 110, 101, 114, 103, 121]⟩ : ByteArray), F, (⟨#[108, 111, 110, 103, 101, 115, 116]⟩ : ByteArray), G]) 4).size + 1 + (nthS [(⟨#[115, 101, 116]⟩ : ByteArray), A, (⟨#[115, 105, 122, 101]⟩ : ByteArray), B, (⟨#[115, 116, 114, 117, 99, 116, 117, 114, 101]⟩ : ByteArray), C, (⟨#[112, 101, 114, 105, 111, 100]⟩ : ByteArray), D, (⟨#[103, 114, 111, 119, 116, 104]⟩ : ByteArray), E, (⟨#[101, 110, 101, 114, 103, 121]⟩ : ByteArray), F, (⟨#[108, 111, 110, 103, 101, 115, 116]⟩ : ByteArray), G] 4).size := jn_more (nthS [(⟨#[115, 101, 116]⟩ : ByteArray), A, (⟨#[115, 105, 122, 101]⟩ : ByteArray), B, (⟨#[115, 116, 114, 117, 99, 116, 117, 114, 101]⟩ : ByteArray), C, (⟨#[112, 101, 114, 105, 111, 100]⟩ : ByteArray), D, (⟨#[103, 114, 111, 119, 116, 104]⟩ : ByteArray), E, (⟨#[101, 110, 101, 114, 103, 121]⟩ : ByteArray), F, (⟨#[108, 111, 110, 103, 101, 115, 116]⟩ : ByteArray), G]) 4
    have r5 : (jn spB (nthS [(⟨#[115, 101, 116]⟩ : ByteArray), A, (⟨#[115, 105, 122, 101]⟩ : ByteArray), B, (⟨#[115, 116, 114, 117, 99, 116, 117, 114, 101]⟩ : ByteArray), C, (⟨#[112, 101, 114, 105, 111, 100]⟩ : ByteArray), D, (⟨#[103, 114, 111, 119, 116, 104]⟩ : ByteArray), E, (⟨#[101, 110, 101, 114, 103, 121]⟩ : ByteArray), F, (⟨#[108, 111, 110, 103, 101, 115, 116]⟩ : ByteArray), G]) 6).size ≤ (jn spB (nthS [(⟨#[115, 101, 116]⟩ : ByteArray), A, (⟨#[115, 105, 122, 101]⟩ : ByteArray), B, (⟨#[115, 116, 114, 117, 99, 116, 117, 114, 101]⟩ : ByteArray), C, (⟨#[112, 101, 114, 105, 111, 100]⟩ : ByteArray), D, (⟨#[103, 114, 111, 119, 116, 104]⟩ : ByteArray), E, (⟨#[101, 110, 101, 114, 103, 121]⟩ : ByteArray), F, (⟨#[108, 111, 110, 103, 101, 115, 116]⟩ : ByteArray), G]) 5).size + 1 + (nthS [(⟨#[115, 101, 116]⟩ : ByteArray), A, (⟨#[115, 105, 122, 101]⟩ : ByteArray), B, (⟨#[115, 116, 114, 117, 99, 116, 117, 114, 101]⟩ : ByteArray), C, (⟨#[112, 101, 114, 105, 111, 100]⟩ : ByteArray), D, (⟨#[103, 114, 111, 119, 116, 104]⟩ : ByteArray), E, (⟨#[101, 110, 101, 114, 103, 121]⟩ : ByteArray), F, (⟨#[108, 111, 110, 103, 101, 115, 116]⟩ : ByteArray), G] 5).size := jn_more (nthS [(⟨#[115, 101, 116]⟩ : ByteArray), A, (⟨#[115, 105, 122, 101]⟩ : ByteArray), B, (⟨#[115, 116, 114, 117, 99, 116, 117, 114, 101]⟩ : ByteArray), C, (⟨#[112, 101, 114, 105, 111, 100]⟩ : ByteArray), D, (⟨#[103, 114, 111, 119, 116, 104]⟩ : ByteArray), E, (⟨#[101, 110, 101, 114, 103, 121]⟩ : ByteArray), F, (⟨#[108, 111, 110, 103, 101, 115, 116]⟩ : ByteArray), G]) 5
    have r6 : (jn spB (nthS [(⟨#[115, 101, 116]⟩ : ByteArray), A, (⟨#[115, 105, 122, 101]⟩ : ByteArray), B, (⟨#[115, 116, 114, 117, 99, 116, 117, 114, 101]⟩ : ByteArray), C, (⟨#[112, 101, 114, 105, 111, 100]⟩ : ByteArray), D, (⟨#[103, 114, 111, 119, 116, 104]⟩ : ByteArray), E, (⟨#[101, 110, 101, 114, 103, 121]⟩ : ByteArray), F, (⟨#[108, 111, 110, 103, 101, 115, 116]⟩ : ByteArray), G]) 7).size ≤ (jn spB (nthS [(⟨#[115, 101, 116]⟩ : ByteArray), A, (⟨#[115, 105, 122, 101]⟩ : ByteArray), B, (⟨#[115, 116, 114, 117, 99, 116, 117, 114, 101]⟩ : ByteArray), C, (⟨#[112, 101, 114, 105, 111, 100]⟩ : ByteArray), D, (⟨#[103, 114, 111, 119, 116, 104]⟩ : ByteArray), E, (⟨#[101, 110, 101, 114, 103, 121]⟩ : ByteArray), F, (⟨#[108, 111, 110, 103, 101, 115, 116]⟩ : ByteArray), G]) 6).size + 1 + (nthS [(⟨#[115, 101, 116]⟩ : ByteArray), A, (⟨#[115, 105, 122, 101]⟩ : ByteArray), B, (⟨#[115, 116, 114, 117, 99, 116, 117, 114, 101]⟩ : ByteArray), C, (⟨#[112, 101, 114, 105, 111, 100]⟩ : ByteArray), D, (⟨#[103, 114, 111, 119, 116, 104]⟩ : ByteArray), E, (⟨#[101, 110, 101, 114, 103, 121]⟩ : ByteArray), F, (⟨#[108, 111, 110, 103, 101, 115, 116]⟩ : ByteArray), G] 6).size := jn_more (nthS [(⟨#[115, 101, 116]⟩ : ByteArray), A, (⟨#[115, 105, 122, 101]⟩ : ByteArray), B, (⟨#[115, 116, 114, 117, 99, 116, 117, 114, 101]⟩ : ByteArray), C, (⟨#[112, 101, 114, 105, 111, 100]⟩ : ByteArray), D, (⟨#[103, 114, 111, 119, 116, 104]⟩ : ByteArray), E, (⟨#[101, 110, 101, 114, 103, 121]⟩ : ByteArray), F, (⟨#[108, 111, 110, 103, 101, 115, 116]⟩ : ByteArray), G]) 6
    have r7 : (jn spB (nthS [(⟨#[115, 101, 116]⟩ : ByteArray), A, (⟨#[115, 105, 122, 101]⟩ : ByteArray), B, (⟨#[115, 116, 114, 117, 99, 116, 117, 114, 101]⟩ : ByteArray), C, (⟨#[112, 101, 114, 105, 111, 100]⟩ : ByteArray), D, (⟨#[103, 114, 111, 119, 116, 104]⟩ : ByteArray), E, (⟨#[101, 110, 101, 114, 103, 121]⟩ : ByteArray), F, (⟨#[108, 111, 110, 103, 101, 115, 116]⟩ : ByteArray), G]) 8).size ≤ (jn spB (nthS [(⟨#[115, 101, 116]⟩ : ByteArray), A, (⟨#[115, 105, 122, 101]⟩ : ByteArray), B, (⟨#[115, 116, 114, 117, 99, 116, 117, 114, 101]⟩ : ByteArray), C, (⟨#[112, 101, 114, 105, 111, 100]⟩ : ByteArray), D, (⟨#[103, 114, 111, 119, 116, 104]⟩ : ByteArray), E, (⟨#[101, 110, 101, 114, 103, 121]⟩ : ByteArray), F, (⟨#[108, 111, 110, 103, 101, 115, 116]⟩ : ByteArray), G]) 7).size + 1 + (nthS [(⟨#[115, 101, 116]⟩ : ByteArray), A, (⟨#[115, 105, 122, 101]⟩ : ByteArray), B, (⟨#[115, 116, 114, 117, 99, 116, 117, 114, 101]⟩ : ByteArray), C, (⟨#[112, 101, 114, 105, 111, 100]⟩ : ByteArray), D, (⟨#[103, 114, 111, 119, 116, 104]⟩ : ByteArray), E, (⟨#[101, 110, 101, 114, 103, 121]⟩ : ByteArray), F, (⟨#[108, 111, 110, 103, 101, 115, 116]⟩ : ByteArray), G] 7).size := jn_more (nthS [(⟨#[115, 101, 116]⟩ : ByteArray), A, (⟨#[115, 105, 122, 101]⟩ : ByteArray), B, (⟨#[115, 116, 114, 117, 99, 116, 117, 114, 101]⟩ : ByteArray), C, (⟨#[112, 101, 114, 105, 111, 100]⟩ : ByteArray), D, (⟨#[103, 114, 111, 119, 116, 104]⟩ : ByteArray), E, (⟨#[101, 110, 101, 114, 103, 121]⟩ : ByteArray), F, (⟨#[108, 111, 110, 103, 101, 115, 116]⟩ : ByteArray), G]) 7
    have r8 : (jn spB (nthS [(⟨#[115, 101, 116]⟩ : ByteArray), A, (⟨#[115, 105, 122, 101]⟩ : ByteArray), B, (⟨#[115, 116, 114, 117, 99, 116, 117, 114, 101]⟩ : ByteArray), C, (⟨#[112, 101, 114, 105, 111, 100]⟩ : ByteArray), D, (⟨#[103, 114, 111, 119, 116, 104]⟩ : ByteArray), E, (⟨#[101, 110, 101, 114, 103, 121]⟩ : ByteArray), F, (⟨#[108, 111, 110, 103, 101, 115, 116]⟩ : ByteArray), G]) 9).size ≤ (jn spB (nthS [(⟨#[115, 101, 116]⟩ : ByteArray), A, (⟨#[115, 105, 122, 101]⟩ : ByteArray), B, (⟨#[115, 116, 114, 117, 99, 116, 117, 114, 101]⟩ : ByteArray), C, (⟨#[112, 101, 114, 105, 111, 100]⟩ : ByteArray), D, (⟨#[103, 114, 111, 119, 116, 104]⟩ : ByteArray), E, (⟨#[101, 110, 101, 114, 103, 121]⟩ : ByteArray), F, (⟨#[108, 111, 110, 103, 101, 115, 116]⟩ : ByteArray), G]) 8).size + 1 + (nthS [(⟨#[115, 101, 116]⟩ : ByteArray), A, (⟨#[115, 105, 122, 101]⟩ : ByteArray), B, (⟨#[115, 116, 114, 117, 99, 116, 117, 114, 101]⟩ : ByteArray), C, (⟨#[112, 101, 114, 105, 111, 100]⟩ : ByteArray), D, (⟨#[103, 114, 111, 119, 116, 104]⟩ : ByteArray), E, (⟨#[101, 110, 101, 114, 103, 121]⟩ : ByteArray), F, (⟨#[108, 111, 110, 103, 101, 115, 116]⟩ : ByteArray), G] 8).size := jn_more (nthS [(⟨#[115, 101, 116]⟩ : ByteArray), A, (⟨#[115, 105, 122, 101]⟩ : ByteArray), B, (⟨#[115, 116, 114, 117, 99, 116, 117, 114, 101]⟩ : ByteArray), C, (⟨#[112, 101, 114, 105, 111, 100]⟩ : ByteArray), D, (⟨#[103, 114, 111, 119, 116, 104]⟩ : ByteArray), E, (⟨#[101, 110, 101, 114, 103, 121]⟩ : ByteArray), F, (⟨#[108, 111, 110, 103, 101, 115, 116]⟩ : ByteArray), G]) 8
    have r9 : (jn spB (nthS [(⟨#[115, 101, 116]⟩ : ByteArray), A, (⟨#[115, 105, 122, 101]⟩ : ByteArray), B, (⟨#[115, 116, 114, 117, 99, 116, 117, 114, 101]⟩ : ByteArray), C, (⟨#[112, 101, 114, 105, 111, 100]⟩ : ByteArray), D, (⟨#[103, 114, 111, 119, 116, 104]⟩ : ByteArray), E, (⟨#[101, 110, 101, 114, 103, 121]⟩ : ByteArray), F, (⟨#[108, 111, 110, 103, 101, 115, 116]⟩ : ByteArray), G]) 10).size ≤ (jn spB (nthS [(⟨#[115, 101, 116]⟩ : ByteArray), A, (⟨#[115, 105, 122, 101]⟩ : ByteArray), B, (⟨#[115, 116, 114, 117, 99, 116, 117, 114, 101]⟩ : ByteArray), C, (⟨#[112, 101, 114, 105, 111, 100]⟩ : ByteArray), D, (⟨#[103, 114, 111, 119, 116, 104]⟩ : ByteArray), E, (⟨#[101, 110, 101, 114, 103, 121]⟩ : ByteArray), F, (⟨#[108, 111, 110, 103, 101, 115, 116]⟩ : ByteArray), G]) 9).size + 1 + (nthS [(⟨#[115, 101, 116]⟩ : ByteArray), A, (⟨#[115, 105, 122, 101]⟩ : ByteArray), B, (⟨#[115, 116, 114, 117, 99, 116, 117, 114, 101]⟩ : ByteArray), C, (⟨#[112, 101, 114, 105, 111, 100]⟩ : ByteArray), D, (⟨#[103, 114, 111, 119, 116, 104]⟩ : ByteArray), E, (⟨#[101, 110, 101, 114, 103, 121]⟩ : ByteArray), F, (⟨#[108, 111, 110, 103, 101, 115, 116]⟩ : ByteArray), G] 9).size := jn_more (nthS [(⟨#[115, 101, 116]⟩ : ByteArray), A, (⟨#[115, 105, 122, 101]⟩ : ByteArray), B, (⟨#[115, 116, 114, 117, 99, 116, 117, 114, 101]⟩ : ByteArray), C, (⟨#[112, 101, 114, 105, 111, 100]⟩ : ByteArray), D, (⟨#[103, 114, 111, 119, 116, 104]⟩ : ByteArray), E, (⟨#[101, 110, 101, 114, 103, 121]⟩ : ByteArray), F, (⟨#[108, 111, 110, 103, 101, 115, 116]⟩ : ByteArray), G]) 9
    have r10 : (jn spB (nthS [(⟨#[115, 101, 116]⟩ : ByteArray), A, (⟨#[115, 105, 122, 101]⟩ : ByteArray), B, (⟨#[115, 116, 114, 117, 99, 116, 117, 114, 101]⟩ : ByteArray), C, (⟨#[112, 101, 114, 105, 111, 100]⟩ : ByteArray), D, (⟨#[103, 114, 111, 119, 116, 104]⟩ : ByteArray), E, (⟨#[101, 110, 101, 114, 103, 121]⟩ : ByteArray), F, (⟨#[108, 111, 110, 103, 101, 115, 116]⟩ : ByteArray), G]) 11).size ≤ (jn spB (nthS [(⟨#[115, 101, 116]⟩ : ByteArray), A, (⟨#[115, 105, 122, 101]⟩ : ByteArray), B, (⟨#[115, 116, 114, 117, 99, 116, 117, 114, 101]⟩ : ByteArray), C, (⟨#[112, 101, 114, 105, 111, 100]⟩ : ByteArray), D, (⟨#[103, 114, 111, 119, 116, 104]⟩ : ByteArray), E, (⟨#[101, 110, 101, 114, 103, 121]⟩ : ByteArray), F, (⟨#[108, 111, 110, 103, 101, 115, 116]⟩ : ByteArray), G]) 10).size + 1 + (nthS [(⟨#[115, 101, 116]⟩ : ByteArray), A, (⟨#[115, 105, 122, 101]⟩ : ByteArray), B, (⟨#[115, 116, 114, 117, 99, 116, 117, 114, 101]⟩ : ByteArray), C, (⟨#[112, 101, 114, 105, 111, 100]⟩ : ByteArray), D, (⟨#[103, 114, 111, 119, 116, 104]⟩ : ByteArray), E, (⟨#[101, 110, 101, 114, 103, 121]⟩ : ByteArray), F, (⟨#[108, 111, 110, 103, 101, 115, 116]⟩ : ByteArray), G] 10).size := jn_more (nthS [(⟨#[115, 101, 116]⟩ : ByteArray), A, (⟨#[115, 105, 122, 101]⟩ : ByteArray), B, (⟨#[115, 116, 114, 117, 99, 116, 117, 114, 101]⟩ : ByteArray), C, (⟨#[112, 101, 114, 105, 111, 100]⟩ : ByteArray), D, (⟨#[103, 114, 111, 119, 116, 104]⟩ : ByteArray), E, (⟨#[101, 110, 101, 114, 103, 121]⟩ : ByteArray), F, (⟨#[108, 111, 110, 103, 101, 115, 116]⟩ : ByteArray), G]) 10
    have r11 : (jn spB (nthS [(⟨#[115, 101, 116]⟩ : ByteArray), A, (⟨#[115, 105, 122, 101]⟩ : ByteArray), B, (⟨#[115, 116, 114, 117, 99, 116, 117, 114, 101]⟩ : ByteArray), C, (⟨#[112, 101, 114, 105, 111, 100]⟩ : ByteArray), D, (⟨#[103, 114, 111, 119, 116, 104]⟩ : ByteArray), E, (⟨#[101, 110, 101, 114, 103, 121]⟩ : ByteArray), F, (⟨#[108, 111, 110, 103, 101, 115, 116]⟩ : ByteArray), G]) 12).size ≤ (jn spB (nthS [(⟨#[115, 101, 116]⟩ : ByteArray), A, (⟨#[115, 105, 122, 101]⟩ : ByteArray), B, (⟨#[115, 116, 114, 117, 99, 116, 117, 114, 101]⟩ : ByteArray), C, (⟨#[112, 101, 114, 105, 111, 100]⟩ : ByteArray), D, (⟨#[103, 114, 111, 119, 116, 104]⟩ : ByteArray), E, (⟨#[101, 110, 101, 114, 103, 121]⟩ : ByteArray), F, (⟨#[108, 111, 110, 103, 101, 115, 116]⟩ : ByteArray), G]) 11).size + 1 + (nthS [(⟨#[115, 101, 116]⟩ : ByteArray), A, (⟨#[115, 105, 122, 101]⟩ : ByteArray), B, (⟨#[115, 116, 114, 117, 99, 116, 117, 114, 101]⟩ : ByteArray), C, (⟨#[112, 101, 114, 105, 111, 100]⟩ : ByteArray), D, (⟨#[103, 114, 111, 119, 116, 104]⟩ : ByteArray), E, (⟨#[101, 110, 101, 114, 103, 121]⟩ : ByteArray), F, (⟨#[108, 111, 110, 103, 101, 115, 116]⟩ : ByteArray), G] 11).size := jn_more (nthS [(⟨#[115, 101, 116]⟩ : ByteArray), A, (⟨#[115, 105, 122, 101]⟩ : ByteArray), B, (⟨#[115, 116, 114, 117, 99, 116, 117, 114, 101]⟩ : ByteArray), C, (⟨#[112, 101, 114, 105, 111, 100]⟩ : ByteArray), D, (⟨#[103, 114, 111, 119, 116, 104]⟩ : ByteArray), E, (⟨#[101, 110, 101, 114, 103, 121]⟩ : ByteArray), F, (⟨#[108, 111, 110, 103, 101, 115, 116]⟩ : ByteArray), G]) 11
    have r12 : (jn spB (nthS [(⟨#[115, 101, 116]⟩ : ByteArray), A, (⟨#[115, 105, 122, 101]⟩ : ByteArray), B, (⟨#[115, 116, 114, 117, 99, 116, 117, 114, 101]⟩ : ByteArray), C, (⟨#[112, 101, 114, 105, 111, 100]⟩ : ByteArray), D, (⟨#[103, 114, 111, 119, 116, 104]⟩ : ByteArray), E, (⟨#[101, 110, 101, 114, 103, 121]⟩ : ByteArray), F, (⟨#[108, 111, 110, 103, 101, 115, 116]⟩ : ByteArray), G]) 13).size ≤ (jn spB (nthS [(⟨#[115, 101, 116]⟩ : ByteArray), A, (⟨#[115, 105, 122, 101]⟩ : ByteArray), B, (⟨#[115, 116, 114, 117, 99, 116, 117, 114, 101]⟩ : ByteArray), C, (⟨#[112, 101, 114, 105, 111, 100]⟩ : ByteArray), D, (⟨#[103, 114, 111, 119, 116, 104]⟩ : ByteArray), E, (⟨#[101, 110, 101, 114, 103, 121]⟩ : ByteArray), F, (⟨#[108, 111, 110, 103, 101, 115, 116]⟩ : ByteArray), G]) 12).size + 1 + (nthS [(⟨#[115, 101, 116]⟩ : ByteArray), A, (⟨#[115, 105, 122, 101]⟩ : ByteArray), B, (⟨#[115, 116, 114, 117, 99, 116, 117, 114, 101]⟩ : ByteArray), C, (⟨#[112, 101, 114, 105, 111, 100]⟩ : ByteArray), D, (⟨#[103, 114, 111, 119, 116, 104]⟩ : ByteArray), E, (⟨#[101, 110, 101, 114, 103, 121]⟩ : ByteArray), F, (⟨#[108, 111, 110, 103, 101, 115, 116]⟩ : ByteArray), G] 12).size := jn_more (nthS [(⟨#[115, 101, 116]⟩ : ByteArray), A, (⟨#[115, 105, 122, 101]⟩ : ByteArray), B, (⟨#[115, 116, 114, 117, 99, 116, 117, 114, 101]⟩ : ByteArray), C, (⟨#[112, 101, 114, 105, 111, 100]⟩ : ByteArray), D, (⟨#[103, 114, 111, 119, 116, 104]⟩ : ByteArray), E, (⟨#[101, 110, 101, 114, 103, 121]⟩ : ByteArray), F, (⟨#[108, 111, 110, 103, 101, 115, 116]⟩ : ByteArray), G]) 12
    have r13 : (jn spB (nthS [(⟨#[115, 101, 116]⟩ : ByteArray), A, (⟨#[115, 105, 122, 101]⟩ : ByteArray), B, (⟨#[115, 116, 114, 117, 99, 116, 117, 114, 101]⟩ : ByteArray), C, (⟨#[112, 101, 114, 105, 111, 100]⟩ : ByteArray), D, (⟨#[103, 114, 111, 119, 116, 104]⟩ : ByteArray), E, (⟨#[101, 110, 101, 114, 103, 121]⟩ : ByteArray), F, (⟨#[108, 111, 110, 103, 101, 115, 116]⟩ : ByteArray), G]) 14).size ≤ (jn spB (nthS [(⟨#[115, 101, 116]⟩ : ByteArray), A, (⟨#[115, 105, 122, 101]⟩ : ByteArray), B, (⟨#[115, 116, 114, 117, 99, 116, 117, 114, 101]⟩ : ByteArray), C, (⟨#[112, 101, 114, 105, 111, 100]⟩ : ByteArray), D, (⟨#[103, 114, 111, 119, 116, 104]⟩ : ByteArray), E, (⟨#[101, 110, 101, 114, 103, 121]⟩ : ByteArray), F, (⟨#[108, 111, 110, 103, 101, 115, 116]⟩ : ByteArray), G]) 13).size + 1 + (nthS [(⟨#[115, 101, 116]⟩ : ByteArray), A, (⟨#[115, 105, 122, 101]⟩ : ByteArray), B, (⟨#[115, 116, 114, 117, 99, 116, 117, 114, 101]⟩ : ByteArray), C, (⟨#[112, 101, 114, 105, 111, 100]⟩ : ByteArray), D, (⟨#[103, 114, 111, 119, 116, 104]⟩ : ByteArray), E, (⟨#[101, 110, 101, 114, 103, 121]⟩ : ByteArray), F, (⟨#[108, 111, 110, 103, 101, 115, 116]⟩ : ByteArray), G] 13).size := jn_more (nthS [(⟨#[115, 101, 116]⟩ : ByteArray), A, (⟨#[115, 105, 122, 101]⟩ : ByteArray), B, (⟨#[115, 116, 114, 117, 99, 116, 117, 114, 101]⟩ : ByteArray), C, (⟨#[112, 101, 114, 105, 111, 100]⟩ : ByteArray), D, (⟨#[103, 114, 111, 119, 116, 104]⟩ : ByteArray), E, (⟨#[101, 110, 101, 114, 103, 121]⟩ : ByteArray), F, (⟨#[108, 111, 110, 103, 101, 115, 116]⟩ : ByteArray), G]) 13
    rw [← hP] at q p0 r0 p1 r1 p2 r2 p3 r3 p4 r4 p5 r5 p6 r6 p7 r7 p8 r8 p9 r9 p10 r10 p11 r11 p12 r12 p13 r13 ⊢
    omega
  have z1 : (if b1 then lineF [X0, (⟨#[115, 117, 109, 102, 114, 101, 101]⟩ : ByteArray)] else X0).size ≤ 2210 := by
    cases b1
    · exact Nat.le_trans z0 (by decide)
    · have q0 : (⟨#[]⟩ : ByteArray).size = 0 := rfl
      have q1 : (⟨#[32]⟩ : ByteArray).size = 1 := rfl
      have rX := z0
      have r0 : (⟨#[115, 117, 109, 102, 114, 101, 101]⟩ : ByteArray).size = 7 := rfl
      simp [lineF, jn, nthS, spB, List.getD, ByteArray.size_append]; omega
  obtain ⟨X1, hX1⟩ : ∃ x, x = (if b1 then lineF [X0, (⟨#[115, 117, 109, 102, 114, 101, 101]⟩ : ByteArray)] else X0) := ⟨_, rfl⟩
  rw [← hX1] at z1
  have cI1 : ∀ (W : World), Calls Try.prog 116 #[.string X0, .bool b1, .slice (some ⟨W.heap.size, 0, none⟩) 1 1] (W.alloc (.cells #[.string (⟨#[115, 117, 109, 102, 114, 101, 101]⟩ : ByteArray)] 9)) fun e w' => e = .returned (.string X1) ∧ Ext (W.alloc (.cells #[.string (⟨#[115, 117, 109, 102, 114, 101, 101]⟩ : ByteArray)] 9)) w' := fun W => by
    rw [hX1]
    exact ifSo_any X0 b1 _ [(⟨#[115, 117, 109, 102, 114, 101, 101]⟩ : ByteArray)] _ (strs_lit W [(⟨#[115, 117, 109, 102, 114, 101, 101]⟩ : ByteArray)] 9 (by simp)) (Nat.le_trans z0 (by decide)) (fun i hi => by
      match i, hi with
      | 0, _ => exact (by decide : ((⟨#[115, 117, 109, 102, 114, 101, 101]⟩ : ByteArray) : ByteArray).size ≤ 5000)) (by simp) (by simp)
  have z2 : (if b2 then lineF [X1, (⟨#[115, 105, 100, 111, 110]⟩ : ByteArray)] else X1).size ≤ 2220 := by
    cases b2
    · exact Nat.le_trans z1 (by decide)
    · have q0 : (⟨#[]⟩ : ByteArray).size = 0 := rfl
      have q1 : (⟨#[32]⟩ : ByteArray).size = 1 := rfl
      have rX := z1
      have r0 : (⟨#[115, 105, 100, 111, 110]⟩ : ByteArray).size = 5 := rfl
      simp [lineF, jn, nthS, spB, List.getD, ByteArray.size_append]; omega
  obtain ⟨X2, hX2⟩ : ∃ x, x = (if b2 then lineF [X1, (⟨#[115, 105, 100, 111, 110]⟩ : ByteArray)] else X1) := ⟨_, rfl⟩
  rw [← hX2] at z2
  have cI2 : ∀ (W : World), Calls Try.prog 116 #[.string X1, .bool b2, .slice (some ⟨W.heap.size, 0, none⟩) 1 1] (W.alloc (.cells #[.string (⟨#[115, 105, 100, 111, 110]⟩ : ByteArray)] 9)) fun e w' => e = .returned (.string X2) ∧ Ext (W.alloc (.cells #[.string (⟨#[115, 105, 100, 111, 110]⟩ : ByteArray)] 9)) w' := fun W => by
    rw [hX2]
    exact ifSo_any X1 b2 _ [(⟨#[115, 105, 100, 111, 110]⟩ : ByteArray)] _ (strs_lit W [(⟨#[115, 105, 100, 111, 110]⟩ : ByteArray)] 9 (by simp)) (Nat.le_trans z1 (by decide)) (fun i hi => by
      match i, hi with
      | 0, _ => exact (by decide : ((⟨#[115, 105, 100, 111, 110]⟩ : ByteArray) : ByteArray).size ≤ 5000)) (by simp) (by simp)
  have z3 : (if b3 then lineF [X2, (⟨#[97, 112, 102, 114, 101, 101]⟩ : ByteArray)] else X2).size ≤ 2230 := by
    cases b3
    · exact Nat.le_trans z2 (by decide)
    · have q0 : (⟨#[]⟩ : ByteArray).size = 0 := rfl
      have q1 : (⟨#[32]⟩ : ByteArray).size = 1 := rfl
      have rX := z2
      have r0 : (⟨#[97, 112, 102, 114, 101, 101]⟩ : ByteArray).size = 6 := rfl
      simp [lineF, jn, nthS, spB, List.getD, ByteArray.size_append]; omega
  obtain ⟨X3, hX3⟩ : ∃ x, x = (if b3 then lineF [X2, (⟨#[97, 112, 102, 114, 101, 101]⟩ : ByteArray)] else X2) := ⟨_, rfl⟩
  rw [← hX3] at z3
  have cI3 : ∀ (W : World), Calls Try.prog 116 #[.string X2, .bool b3, .slice (some ⟨W.heap.size, 0, none⟩) 1 1] (W.alloc (.cells #[.string (⟨#[97, 112, 102, 114, 101, 101]⟩ : ByteArray)] 9)) fun e w' => e = .returned (.string X3) ∧ Ext (W.alloc (.cells #[.string (⟨#[97, 112, 102, 114, 101, 101]⟩ : ByteArray)] 9)) w' := fun W => by
    rw [hX3]
    exact ifSo_any X2 b3 _ [(⟨#[97, 112, 102, 114, 101, 101]⟩ : ByteArray)] _ (strs_lit W [(⟨#[97, 112, 102, 114, 101, 101]⟩ : ByteArray)] 9 (by simp)) (Nat.le_trans z2 (by decide)) (fun i hi => by
      match i, hi with
      | 0, _ => exact (by decide : ((⟨#[97, 112, 102, 114, 101, 101]⟩ : ByteArray) : ByteArray).size ≤ 5000)) (by simp) (by simp)
  have z4 : (if b4 then lineF [X3, (⟨#[98, 97, 115, 105, 115]⟩ : ByteArray)] else X3).size ≤ 2240 := by
    cases b4
    · exact Nat.le_trans z3 (by decide)
    · have q0 : (⟨#[]⟩ : ByteArray).size = 0 := rfl
      have q1 : (⟨#[32]⟩ : ByteArray).size = 1 := rfl
      have rX := z3
      have r0 : (⟨#[98, 97, 115, 105, 115]⟩ : ByteArray).size = 5 := rfl
      simp [lineF, jn, nthS, spB, List.getD, ByteArray.size_append]; omega
  obtain ⟨X4, hX4⟩ : ∃ x, x = (if b4 then lineF [X3, (⟨#[98, 97, 115, 105, 115]⟩ : ByteArray)] else X3) := ⟨_, rfl⟩
  rw [← hX4] at z4
  have cI4 : ∀ (W : World), Calls Try.prog 116 #[.string X3, .bool b4, .slice (some ⟨W.heap.size, 0, none⟩) 1 1] (W.alloc (.cells #[.string (⟨#[98, 97, 115, 105, 115]⟩ : ByteArray)] 9)) fun e w' => e = .returned (.string X4) ∧ Ext (W.alloc (.cells #[.string (⟨#[98, 97, 115, 105, 115]⟩ : ByteArray)] 9)) w' := fun W => by
    rw [hX4]
    exact ifSo_any X3 b4 _ [(⟨#[98, 97, 115, 105, 115]⟩ : ByteArray)] _ (strs_lit W [(⟨#[98, 97, 115, 105, 115]⟩ : ByteArray)] 9 (by simp)) (Nat.le_trans z3 (by decide)) (fun i hi => by
      match i, hi with
      | 0, _ => exact (by decide : ((⟨#[98, 97, 115, 105, 115]⟩ : ByteArray) : ByteArray).size ≤ 5000)) (by simp) (by simp)
  have Hfin : Hid (stlF l n = X4) := Lib.hid (by
    rw [hX4, one_more X3 b4 (⟨#[98, 97, 115, 105, 115]⟩ : ByteArray) (⟨#[32, 98, 97, 115, 105, 115]⟩ : ByteArray) rfl, hX3, one_more X2 b3 (⟨#[97, 112, 102, 114, 101, 101]⟩ : ByteArray) (⟨#[32, 97, 112, 102, 114, 101, 101]⟩ : ByteArray) rfl, hX2, one_more X1 b2 (⟨#[115, 105, 100, 111, 110]⟩ : ByteArray) (⟨#[32, 115, 105, 100, 111, 110]⟩ : ByteArray) rfl, hX1, one_more X0 b1 (⟨#[115, 117, 109, 102, 114, 101, 101]⟩ : ByteArray) (⟨#[32, 115, 117, 109, 102, 114, 101, 101]⟩ : ByteArray) rfl, hX0, stl_head, Hs.out])
  clear hX0 hX1 hX2 hX3 hX4 hln_X0 z0 z1 z2 z3 z4 sA sB sC sD sE sF sG Hs Hgr
  go_enter Try.func55, Try.ntmps55
  go_wp2_with fail
  rw [← Hwb.out]
  refine (IsSet_val _ _ _ _ (hg _ hE) hs).mono ?_
  rintro e w2 ⟨rfl, hE'⟩
  replace hE := hE.trans hE'
  clear hE'
  have kb := fun W (hW : Ext w2 W) => hb W (hE.trans hW)
  go_wp2_with fail
  have hD := (Ext.refl w2).drew
  first | (go_region_held3 (fun W => Ext w2 W ∧ W.cell? ⟨w.heap.size, 0, none⟩ = some v) (exact ⟨(by repeat (first | assumption | exact Ext.refl _ | (apply And.left; assumption) | apply Ext.drew | apply Ext.alloc)), kb _ (by repeat (first | assumption | exact Ext.refl _ | (apply And.left; assumption) | apply Ext.drew | apply Ext.alloc))⟩) (first | (go_at_call 109; ((first | (with_reducible refine Calls.mono (cA _ (hE.trans (by repeat (first | assumption | exact Ext.refl _ | (apply And.left; assumption) | apply Ext.drew | apply Ext.alloc)))) ?_) | (with_reducible refine Calls.mono (cD _ (hE.trans (by repeat (first | assumption | exact Ext.refl _ | (apply And.left; assumption) | apply Ext.drew | apply Ext.alloc)))) ?_)); rintro e wH ⟨rfl, hX⟩; have hH := Ext.trans (a := w2) (by repeat (first | assumption | exact Ext.refl _ | (apply And.left; assumption) | apply Ext.drew | apply Ext.alloc)) hX)) | (go_at_call 83; ((first | (with_reducible refine Calls.mono (cB0 _) ?_)); rintro e wH ⟨rfl, rfl⟩; skip)) | (go_at_call 110; ((first | (with_reducible refine Calls.mono (cB _) ?_) | (with_reducible refine Calls.mono (cF _) ?_) | (with_reducible refine Calls.mono (cG _) ?_)); rintro e wH ⟨rfl, hX⟩; have hH := Ext.trans (a := w2) (by repeat (first | assumption | exact Ext.refl _ | (apply And.left; assumption) | apply Ext.drew | apply Ext.alloc)) hX)) | (go_at_call 111; ((first | (with_reducible refine Calls.mono (cC _ (hE.trans (by repeat (first | assumption | exact Ext.refl _ | (apply And.left; assumption) | apply Ext.drew | apply Ext.alloc)))) ?_)); rintro e wH ⟨rfl, hX⟩; have hH := Ext.trans (a := w2) (by repeat (first | assumption | exact Ext.refl _ | (apply And.left; assumption) | apply Ext.drew | apply Ext.alloc)) hX)) | (go_at_call 112; ((first | (with_reducible refine Calls.mono (cD0 _ (hE.trans (by repeat (first | assumption | exact Ext.refl _ | (apply And.left; assumption) | apply Ext.drew | apply Ext.alloc)))) ?_)); rintro e wH ⟨rfl, hX⟩; have hH := Ext.trans (a := w2) (by repeat (first | assumption | exact Ext.refl _ | (apply And.left; assumption) | apply Ext.drew | apply Ext.alloc)) hX)) | (go_at_call 114; ((first | (with_reducible refine Calls.mono (cE0 _ (hE.trans (by repeat (first | assumption | exact Ext.refl _ | (apply And.left; assumption) | apply Ext.drew | apply Ext.alloc)))) ?_)); rintro e wH ⟨vG, rfl, hOG, hX⟩; have hH := Ext.trans (a := w2) (by repeat (first | assumption | exact Ext.refl _ | (apply And.left; assumption) | apply Ext.drew | apply Ext.alloc)) hX)) | (go_at_call 113; ((first | (with_reducible refine Calls.mono (cE _ _ (by first | exact hOG.ints | exact hOG.ints.ext (by repeat (first | assumption | exact Ext.refl _ | (apply And.left; assumption) | apply Ext.drew | apply Ext.alloc)))) ?_)); rintro e wH ⟨rfl, hX⟩; have hH := Ext.trans (a := w2) (by repeat (first | assumption | exact Ext.refl _ | (apply And.left; assumption) | apply Ext.drew | apply Ext.alloc)) hX)) | (go_at_call 70; ((first | (with_reducible refine Calls.mono (cF0 _ (hE.trans (by repeat (first | assumption | exact Ext.refl _ | (apply And.left; assumption) | apply Ext.drew | apply Ext.alloc)))) ?_)); rintro e wH ⟨rfl, hX⟩; have hH := Ext.trans (a := w2) (by repeat (first | assumption | exact Ext.refl _ | (apply And.left; assumption) | apply Ext.drew | apply Ext.alloc)) hX)) | (go_at_call 115; ((first | (with_reducible refine Calls.mono (cG0 _ (hE.trans (by repeat (first | assumption | exact Ext.refl _ | (apply And.left; assumption) | apply Ext.drew | apply Ext.alloc)))) ?_)); rintro e wH ⟨rfl, hX⟩; have hH := Ext.trans (a := w2) (by repeat (first | assumption | exact Ext.refl _ | (apply And.left; assumption) | apply Ext.drew | apply Ext.alloc)) hX)) | (go_at_call 108; ((with_reducible refine Calls.mono (cL0 _) ?_); rintro e wL ⟨rfl, hX⟩; have hHL := Ext.trans (a := w2) (by repeat (first | assumption | exact Ext.refl _ | (apply And.left; assumption) | apply Ext.drew | apply Ext.alloc)) hX)))) | (fail "the region")
  have hE3 := hE.trans hHL
  have kb3 := hb _ hE3
  go_wp2_with (first
    | (go_at_call 117; refine (c1 _ hE3).mono ?_; rintro e u0 ⟨rfl, hU0⟩; have hV0 := hE3.trans hU0)
    | (go_at_call 116; with_reducible refine Calls.mono (cI1 _) ?_; rintro e t0 ⟨rfl, hT0⟩; have hS0 := hV0.trans (Ext.trans ((Ext.refl _).alloc _) hT0); have kb4 := hb _ hS0)
    | (go_at_call 118; refine (c2 _ hS0).mono ?_; rintro e u1 ⟨rfl, hU1⟩; have hV1 := hS0.trans hU1)
    | (go_at_call 116; with_reducible refine Calls.mono (cI2 _) ?_; rintro e t1 ⟨rfl, hT1⟩; have hS1 := hV1.trans (Ext.trans ((Ext.refl _).alloc _) hT1); have kb5 := hb _ hS1)
    | (go_at_call 119; refine (c3 _ hS1).mono ?_; rintro e u2 ⟨rfl, hU2⟩; have hV2 := hS1.trans hU2)
    | (go_at_call 116; with_reducible refine Calls.mono (cI3 _) ?_; rintro e t2 ⟨rfl, hT2⟩; have hS2 := hV2.trans (Ext.trans ((Ext.refl _).alloc _) hT2); have kb6 := hb _ hS2)
    | (go_at_call 120; refine (c4 _ hS2).mono ?_; rintro e u3 ⟨rfl, hU3⟩; have hV3 := hS2.trans hU3)
    | (go_at_call 116; with_reducible refine Calls.mono (cI4 _) ?_; rintro e t3 ⟨rfl, hT3⟩; have hS3 := hV3.trans (Ext.trans ((Ext.refl _).alloc _) hT3); have kb7 := hb _ hS3))
  go_ret
  exact ⟨ret_str Hfin.out.symm, hE0.trans hS3⟩
theorem sSetLine_any (v : Value) (l : List Int) (a : Int) (w : World) (h : Ints w v l) :
    Calls Try.prog 53 #[.agg #[v], .int .i64 a] w fun e w' => e = .returned (.string (stlF l a)) ∧ Ext w w' := by
  obtain ⟨wb, hwb⟩ : ∃ wb, wb = w.alloc (.cells #[v] 26) := ⟨_, rfl⟩
  have hE0 := (Ext.refl w).alloc (.cells #[v] 26)
  have hb := box_cell w v 26
  rw [← hwb] at hE0 hb
  have hg : ∀ W, Ext wb W → Ints W v l := fun W hW => h.ext (hE0.trans hW)
  have hE := Ext.refl wb
  have Hsz : Hid (w.heap.size + 1 = wb.heap.size) := Lib.hid (by rw [hwb]; simp [go_sem])
  have Hwb := Lib.hid hwb
  clear hwb h
  have hbx := hb wb hE
  cases hs : isSetB l a
  · have Hs := Lib.hid (stl_no hs)
    go_enter Try.func53, Try.ntmps53
    go_wp2_with fail
    rw [← Hwb.out]
    go_wp2_with (first | (go_at_call 73; refine (sIsSet_val _ _ _ _ (hg _ hE) (hs)).mono ?_; rintro e w' ⟨rfl, hE'⟩; replace hE := hE.trans hE'; clear hE'))
    go_ret
    exact ⟨ret_str Hs.out.symm, hE0.trans hE⟩
  obtain ⟨n, rfl, h1, h2, hgr⟩ := isSetB_nat hs
  have Hgr := Lib.hid hgr
  have Hs := Lib.hid (stl_yes hs)
  have hcn := cnt_le n
  have hgi := grow_in l n
  have hlp := lpF_le l n
  have hen : 0 ≤ enF l n n ∧ enF l n n ≤ 7962624 := by
    rw [enF_yes (by rw [hs]; rfl)]
    have := sqTo_bd hgr n n (ord l); have := ord_bd hgr; omega
  have sA := fsF9_size l n
  have sB := fmtB_size (n := ((cnt n : Nat) : Int)) (by omega)
  have sC := stF_size l n
  have sD := fsF9_size l (stabF l n : Nat)
  have sE := numF9_size hgi.1 hgi.2
  have sF := fmtB_size (n := enF l n n) (by omega)
  have sG := fmtB_size (n := ((lpF l n : Nat) : Int)) (by omega)
  have cA := fun W (hW : Ext wb W) => sFormatSet_any v l n W (hg W hW)
  have cB0 := fun W => l3Bits_any n h2 W
  have cB := fun W => sFormatInt_any ((cnt n : Nat) : Int) (by omega) W
  have cC := fun W (hW : Ext wb W) => sStructureOf_any v l n W (hg W hW)
  have cD0 := fun W (hW : Ext wb W) => l6Stabilizer_any v l n W (hg W hW) Hgr h2
  have cD := fun W (hW : Ext wb W) => sFormatSet_any v l (stabF l n : Nat) W (hg W hW)
  have cE0 := fun W (hW : Ext wb W) => sGrowthOf_yes v l n W (hg W hW) hs
  have cE := fun u W (hu : Ints W u (castL (growL l n 4))) => sNumbers9_any u (castL (growL l n 4)) W hu hgi.1 (by omega)
  have cF0 := fun W (hW : Ext wb W) => sEnergyOf_any v l n n W (hg W hW)
  have cF := fun W => sFormatInt_any (enF l n n) (by omega) W
  have cG0 := fun W (hW : Ext wb W) => sLongestProgression_yes v l n W (hg W hW) hs
  have cG := fun W => sFormatInt_any ((lpF l n : Nat) : Int) (by omega) W
  have c1 : ∀ W, Ext wb W → Calls Try.prog 103 #[.agg #[v], .int .i64 n] W fun e w' => e = .returned (.bool (decide (sumF l n n &&& n = 0))) ∧ Ext W w' := fun W hW => (l21Free_any v l n W (hg W hW) Hgr h2).mono fun e w' ⟨r1, r2⟩ => ⟨by first | (rw [r1]; done) | (rw [r1]; simp [hs]), r2⟩
  have c2 := fun W (hW : Ext wb W) => sIsSidon_any v l n W (hg W hW)
  have c3 := fun W (hW : Ext wb W) => sIsApFree_any v l n W (hg W hW)
  have c4 := fun W (hW : Ext wb W) => sIsBasis_yes v l n W (hg W hW) hs
  obtain ⟨b1, hb1⟩ : ∃ x, x = decide (sumF l n n &&& n = 0) := ⟨_, rfl⟩
  obtain ⟨b2, hb2⟩ : ∃ x, x = sidB l n := ⟨_, rfl⟩
  obtain ⟨b3, hb3⟩ : ∃ x, x = apB l n := ⟨_, rfl⟩
  obtain ⟨b4, hb4⟩ : ∃ x, x = basB l n := ⟨_, rfl⟩
  rw [← hb1, ← hb2, ← hb3, ← hb4] at Hs
  simp only [← hb1] at c1
  simp only [← hb2] at c2
  simp only [← hb3] at c3
  simp only [← hb4] at c4
  obtain ⟨A, hA⟩ : ∃ x, x = fsF l n := ⟨_, rfl⟩
  obtain ⟨B, hB⟩ : ∃ x, x = fmtB ((cnt n : Nat) : Int) := ⟨_, rfl⟩
  obtain ⟨C, hC⟩ : ∃ x, x = stF l n := ⟨_, rfl⟩
  obtain ⟨D, hD⟩ : ∃ x, x = fsF l (stabF l n : Nat) := ⟨_, rfl⟩
  obtain ⟨E, hE'⟩ : ∃ x, x = numF (castL (growL l n 4)) := ⟨_, rfl⟩
  obtain ⟨F, hF⟩ : ∃ x, x = fmtB (enF l n n) := ⟨_, rfl⟩
  obtain ⟨G, hG⟩ : ∃ x, x = fmtB ((lpF l n : Nat) : Int) := ⟨_, rfl⟩
  rw [← hA, ← hB, ← hC, ← hD, ← hE', ← hF, ← hG] at Hs
  simp only [← hA] at cA sA
  simp only [← hB] at cB sB
  simp only [← hC] at cC sC
  simp only [← hD] at cD sD
  simp only [← hE'] at cE sE
  simp only [← hF] at cF sF
  simp only [← hG] at cG sG
  obtain ⟨cn, hcn'⟩ : ∃ x, x = cnt n := ⟨_, rfl⟩
  obtain ⟨st, hst⟩ : ∃ x, x = stabF l n := ⟨_, rfl⟩
  obtain ⟨en, hen'⟩ : ∃ x, x = enF l n n := ⟨_, rfl⟩
  obtain ⟨lp, hlp'⟩ : ∃ x, x = lpF l n := ⟨_, rfl⟩
  obtain ⟨gr, hgr'⟩ : ∃ x, x = castL (growL l n 4) := ⟨_, rfl⟩
  simp only [← hcn'] at cB0 cB
  simp only [← hst] at cD0 cD
  simp only [← hen'] at cF0 cF
  simp only [← hlp'] at cG0 cG
  simp only [← hgr'] at cE0 cE
  clear hb1 hb2 hb3 hb4 hA hB hC hD hE' hF hG hcn' hst hen' hlp' hgr' hcn hgi hlp hen hgr h1

  have cY0 := fun W => yes_any b1 (⟨#[32, 115, 117, 109, 102, 114, 101, 101]⟩ : ByteArray) W
  have zY0 : (if b1 then (⟨#[32, 115, 117, 109, 102, 114, 101, 101]⟩ : ByteArray) else (⟨#[]⟩ : ByteArray)).size ≤ 20 := by cases b1 <;> decide
  obtain ⟨y0, hy0⟩ : ∃ x, x = (if b1 then (⟨#[32, 115, 117, 109, 102, 114, 101, 101]⟩ : ByteArray) else (⟨#[]⟩ : ByteArray)) := ⟨_, rfl⟩
  rw [← hy0] at cY0 zY0
  have Hy0 := Lib.hid hy0
  clear hy0
  have cY1 := fun W => yes_any b2 (⟨#[32, 115, 105, 100, 111, 110]⟩ : ByteArray) W
  have zY1 : (if b2 then (⟨#[32, 115, 105, 100, 111, 110]⟩ : ByteArray) else (⟨#[]⟩ : ByteArray)).size ≤ 20 := by cases b2 <;> decide
  obtain ⟨y1, hy1⟩ : ∃ x, x = (if b2 then (⟨#[32, 115, 105, 100, 111, 110]⟩ : ByteArray) else (⟨#[]⟩ : ByteArray)) := ⟨_, rfl⟩
  rw [← hy1] at cY1 zY1
  have Hy1 := Lib.hid hy1
  clear hy1
  have cY2 := fun W => yes_any b3 (⟨#[32, 97, 112, 102, 114, 101, 101]⟩ : ByteArray) W
  have zY2 : (if b3 then (⟨#[32, 97, 112, 102, 114, 101, 101]⟩ : ByteArray) else (⟨#[]⟩ : ByteArray)).size ≤ 20 := by cases b3 <;> decide
  obtain ⟨y2, hy2⟩ : ∃ x, x = (if b3 then (⟨#[32, 97, 112, 102, 114, 101, 101]⟩ : ByteArray) else (⟨#[]⟩ : ByteArray)) := ⟨_, rfl⟩
  rw [← hy2] at cY2 zY2
  have Hy2 := Lib.hid hy2
  clear hy2
  have cY3 := fun W => yes_any b4 (⟨#[32, 98, 97, 115, 105, 115]⟩ : ByteArray) W
  have zY3 : (if b4 then (⟨#[32, 98, 97, 115, 105, 115]⟩ : ByteArray) else (⟨#[]⟩ : ByteArray)).size ≤ 20 := by cases b4 <;> decide
  obtain ⟨y3, hy3⟩ : ∃ x, x = (if b4 then (⟨#[32, 98, 97, 115, 105, 115]⟩ : ByteArray) else (⟨#[]⟩ : ByteArray)) := ⟨_, rfl⟩
  rw [← hy3] at cY3 zY3
  have Hy3 := Lib.hid hy3
  clear hy3
  go_enter Try.func53, Try.ntmps53
  go_wp2_with fail
  rw [← Hwb.out]
  refine (sIsSet_val _ _ _ _ (hg _ hE) hs).mono ?_
  rintro e w2 ⟨rfl, hE'⟩
  replace hE := hE.trans hE'
  clear hE'
  have kb := fun W (hW : Ext w2 W) => hb W (hE.trans hW)
  go_wp2_with fail
  have hD := (Ext.refl w2).drew
  refine wp_region_held_drew (S := (fun W => Ext w2 W ∧ W.cell? ⟨w.heap.size, 0, none⟩ = some v)) (by kernel_rfl) (by exact ⟨(by repeat (first | assumption | exact Ext.refl _ | (apply And.left; assumption) | apply Ext.drew | apply Ext.alloc)), kb _ (by repeat (first | assumption | exact Ext.refl _ | (apply And.left; assumption) | apply Ext.drew | apply Ext.alloc))⟩) (fun hHeld => ?_)
  (refine takeOn (i := 0) (v := ?_) (by kernel_rfl) (by rfl) (by rfl) (by kernel_rfl) (by kernel_rfl) (by intro _ _ _ h; exact h) ?_ (by assumption) ?_); (rotate_left 1); (focus ((intro w hSw); (try dsimp only at hSw); go_simp; (try with_reducible rfl))); (try simp only [Act.put, List.setIfInBounds_toArray, List.set_cons_zero, List.set_cons_succ, List.getElem_toArray, List.getElem_cons_zero, List.getElem_cons_succ])
  (refine takeOn (i := 1) (v := ?_) (by kernel_rfl) (by rfl) (by rfl) (by kernel_rfl) (by kernel_rfl) (by intro _ _ _ h; exact h) ?_ (by assumption) ?_); (rotate_left 1); (focus ((intro w hSw); (try dsimp only at hSw); go_simp; (try with_reducible rfl))); (try simp only [Act.put, List.setIfInBounds_toArray, List.set_cons_zero, List.set_cons_succ, List.getElem_toArray, List.getElem_cons_zero, List.getElem_cons_succ])
  (refine takeOn (i := 5) (v := ?_) (by kernel_rfl) (by rfl) (by rfl) (by kernel_rfl) (by kernel_rfl) (by intro _ _ _ h; exact h) ?_ (by assumption) ?_); (rotate_left 1); (focus ((intro w hSw); (try dsimp only at hSw); go_simp; (try with_reducible rfl))); (try simp only [Act.put, List.setIfInBounds_toArray, List.set_cons_zero, List.set_cons_succ, List.getElem_toArray, List.getElem_cons_zero, List.getElem_cons_succ])
  (refine takeOn (i := 10) (v := ?_) (by kernel_rfl) (by rfl) (by rfl) (by kernel_rfl) (by kernel_rfl) (by intro _ _ _ h; exact h) ?_ (by assumption) ?_); (rotate_left 1); (focus ((intro w hSw); (try dsimp only at hSw); go_simp; (try with_reducible rfl))); (try simp only [Act.put, List.setIfInBounds_toArray, List.set_cons_zero, List.set_cons_succ, List.getElem_toArray, List.getElem_cons_zero, List.getElem_cons_succ])
  (refine takeOn (i := 11) (v := ?_) (by kernel_rfl) (by rfl) (by rfl) (by kernel_rfl) (by kernel_rfl) (by intro _ _ _ h; exact h) ?_ (by assumption) ?_); (rotate_left 1); (focus ((intro w hSw); (try dsimp only at hSw); go_simp; (try with_reducible rfl))); (try simp only [Act.put, List.setIfInBounds_toArray, List.set_cons_zero, List.set_cons_succ, List.getElem_toArray, List.getElem_cons_zero, List.getElem_cons_succ])
  (refine takeOn (i := 15) (v := ?_) (by kernel_rfl) (by rfl) (by rfl) (by kernel_rfl) (by kernel_rfl) (by intro _ _ _ h; exact h) ?_ (by assumption) ?_); (rotate_left 1); (focus ((intro w hSw); (try dsimp only at hSw); go_simp; (try with_reducible rfl))); (try simp only [Act.put, List.setIfInBounds_toArray, List.set_cons_zero, List.set_cons_succ, List.getElem_toArray, List.getElem_cons_zero, List.getElem_cons_succ])
  (refine takeOn (i := 16) (v := ?_) (by kernel_rfl) (by rfl) (by rfl) (by kernel_rfl) (by kernel_rfl) (by intro _ _ _ h; exact h) ?_ (by assumption) ?_); (rotate_left 1); (focus ((intro w hSw); (try dsimp only at hSw); go_simp; (try with_reducible rfl))); (try simp only [Act.put, List.setIfInBounds_toArray, List.set_cons_zero, List.set_cons_succ, List.getElem_toArray, List.getElem_cons_zero, List.getElem_cons_succ])
  (refine takeOn (i := 17) (v := ?_) (by kernel_rfl) (by rfl) (by rfl) (by kernel_rfl) (by kernel_rfl) (by intro _ _ _ h; exact h) ?_ (by assumption) ?_); (rotate_left 1); (focus ((intro w hSw); (try dsimp only at hSw); go_simp; (try with_reducible rfl))); (try simp only [Act.put, List.setIfInBounds_toArray, List.set_cons_zero, List.set_cons_succ, List.getElem_toArray, List.getElem_cons_zero, List.getElem_cons_succ])
  (refine takeOn (i := 22) (v := ?_) (by kernel_rfl) (by rfl) (by rfl) (by kernel_rfl) (by kernel_rfl) (by intro _ _ _ h; exact h) ?_ (by assumption) ?_); (rotate_left 1); (focus ((intro w hSw); (try dsimp only at hSw); go_simp; (try with_reducible rfl))); (try simp only [Act.put, List.setIfInBounds_toArray, List.set_cons_zero, List.set_cons_succ, List.getElem_toArray, List.getElem_cons_zero, List.getElem_cons_succ])
  (refine takeOn (i := 23) (v := ?_) (by kernel_rfl) (by rfl) (by rfl) (by kernel_rfl) (by kernel_rfl) (by intro _ _ _ h; exact h) ?_ (by assumption) ?_); (rotate_left 1); (focus ((intro w hSw); (try dsimp only at hSw); go_simp; (try with_reducible rfl))); (try simp only [Act.put, List.setIfInBounds_toArray, List.set_cons_zero, List.set_cons_succ, List.getElem_toArray, List.getElem_cons_zero, List.getElem_cons_succ])
  (refine takeOn (i := 28) (v := ?_) (by kernel_rfl) (by rfl) (by rfl) (by kernel_rfl) (by kernel_rfl) (by intro _ _ _ h; exact h) ?_ (by assumption) ?_); (rotate_left 1); (focus ((intro w hSw); (try dsimp only at hSw); go_simp; (try with_reducible rfl))); (try simp only [Act.put, List.setIfInBounds_toArray, List.set_cons_zero, List.set_cons_succ, List.getElem_toArray, List.getElem_cons_zero, List.getElem_cons_succ])
  (refine takeOn (i := 29) (v := ?_) (by kernel_rfl) (by rfl) (by rfl) (by kernel_rfl) (by kernel_rfl) (by intro _ _ _ h; exact h) ?_ (by assumption) ?_); (rotate_left 1); (focus ((intro w hSw); (try dsimp only at hSw); go_simp; (try with_reducible rfl))); (try simp only [Act.put, List.setIfInBounds_toArray, List.set_cons_zero, List.set_cons_succ, List.getElem_toArray, List.getElem_cons_zero, List.getElem_cons_succ])
  (refine takeOn (i := 30) (v := ?_) (by kernel_rfl) (by rfl) (by rfl) (by kernel_rfl) (by kernel_rfl) (by intro _ _ _ h; exact h) ?_ (by assumption) ?_); (rotate_left 1); (focus ((intro w hSw); (try dsimp only at hSw); go_simp; (try with_reducible rfl))); (try simp only [Act.put, List.setIfInBounds_toArray, List.set_cons_zero, List.set_cons_succ, List.getElem_toArray, List.getElem_cons_zero, List.getElem_cons_succ])
  (refine takeOn (i := 35) (v := ?_) (by kernel_rfl) (by rfl) (by rfl) (by kernel_rfl) (by kernel_rfl) (by intro _ _ _ h; exact h) ?_ (by assumption) ?_); (rotate_left 1); (focus ((intro w hSw); (try dsimp only at hSw); go_simp; (try with_reducible rfl))); (try simp only [Act.put, List.setIfInBounds_toArray, List.set_cons_zero, List.set_cons_succ, List.getElem_toArray, List.getElem_cons_zero, List.getElem_cons_succ])
  (refine takeOn (i := 36) (v := ?_) (by kernel_rfl) (by rfl) (by rfl) (by kernel_rfl) (by kernel_rfl) (by intro _ _ _ h; exact h) ?_ (by assumption) ?_); (rotate_left 1); (focus ((intro w hSw); (try dsimp only at hSw); go_simp; (try with_reducible rfl))); (try simp only [Act.put, List.setIfInBounds_toArray, List.set_cons_zero, List.set_cons_succ, List.getElem_toArray, List.getElem_cons_zero, List.getElem_cons_succ])
  refine takeOne (i := 2) (by kernel_rfl) (by rfl) (by rfl) (fun K hK => ?_)
  go_simp; (go_at_call 95; (with_reducible refine Calls.mono (cA _ (hE.trans (by repeat (first | assumption | exact Ext.refl _ | (apply And.left; assumption) | apply Ext.drew | apply Ext.alloc)))) ?_); rintro e wH ⟨rfl, hX⟩; have hH := Ext.trans (a := w2) (by repeat (first | assumption | exact Ext.refl _ | (apply And.left; assumption) | apply Ext.drew | apply Ext.alloc)) hX; (try (clear hX)))
  refine hK.out _ _ (by exact ⟨(by repeat (first | assumption | exact Ext.refl _ | (apply And.left; assumption) | apply Ext.drew | apply Ext.alloc)), kb _ (by repeat (first | assumption | exact Ext.refl _ | (apply And.left; assumption) | apply Ext.drew | apply Ext.alloc))⟩) (fun hHeld => ?_)
  clear hK K
  (try simp only [Act.put, List.setIfInBounds_toArray, List.set_cons_zero, List.set_cons_succ, List.getElem_toArray, List.getElem_cons_zero, List.getElem_cons_succ])
  (refine takeOn (i := 3) (v := ?_) (by kernel_rfl) (by rfl) (by rfl) (by kernel_rfl) (by kernel_rfl) (by intro _ _ _ h; exact h) ?_ (by assumption) ?_); (rotate_left 1); (focus ((intro w hSw); (try dsimp only at hSw); go_simp; (first | done | with_reducible rfl | (rw [if_neg]; (try simp only [ByteArray.size_append, ByteArray.size_mk, List.size_toArray, List.length_cons, List.length_nil]); omega) | trace_state))); (try simp only [Act.put, List.setIfInBounds_toArray, List.set_cons_zero, List.set_cons_succ, List.getElem_toArray, List.getElem_cons_zero, List.getElem_cons_succ])
  (refine takeOn (i := 4) (v := ?_) (by kernel_rfl) (by rfl) (by rfl) (by kernel_rfl) (by kernel_rfl) (by intro _ _ _ h; exact h) ?_ (by assumption) ?_); (rotate_left 1); (focus ((intro w hSw); (try dsimp only at hSw); go_simp; (first | done | with_reducible rfl | (rw [if_neg]; (try simp only [ByteArray.size_append, ByteArray.size_mk, List.size_toArray, List.length_cons, List.length_nil]); omega) | trace_state))); (try simp only [Act.put, List.setIfInBounds_toArray, List.set_cons_zero, List.set_cons_succ, List.getElem_toArray, List.getElem_cons_zero, List.getElem_cons_succ])
  refine takeOne (i := 6) (by kernel_rfl) (by rfl) (by rfl) (fun K hK => ?_)
  go_simp; (go_at_call 85; (with_reducible refine Calls.mono (cB0 _) ?_); rintro e wH ⟨rfl, rfl⟩; skip; (try (clear hX)))
  refine hK.out _ _ (by exact ⟨(by repeat (first | assumption | exact Ext.refl _ | (apply And.left; assumption) | apply Ext.drew | apply Ext.alloc)), kb _ (by repeat (first | assumption | exact Ext.refl _ | (apply And.left; assumption) | apply Ext.drew | apply Ext.alloc))⟩) (fun hHeld => ?_)
  clear hK K
  (try simp only [Act.put, List.setIfInBounds_toArray, List.set_cons_zero, List.set_cons_succ, List.getElem_toArray, List.getElem_cons_zero, List.getElem_cons_succ])
  refine takeOne (i := 7) (by kernel_rfl) (by rfl) (by rfl) (fun K hK => ?_)
  go_simp; (go_at_call 96; (with_reducible refine Calls.mono (cB _) ?_); rintro e wH ⟨rfl, hX⟩; have hH := Ext.trans (a := w2) (by repeat (first | assumption | exact Ext.refl _ | (apply And.left; assumption) | apply Ext.drew | apply Ext.alloc)) hX; (try (clear hX)))
  refine hK.out _ _ (by exact ⟨(by repeat (first | assumption | exact Ext.refl _ | (apply And.left; assumption) | apply Ext.drew | apply Ext.alloc)), kb _ (by repeat (first | assumption | exact Ext.refl _ | (apply And.left; assumption) | apply Ext.drew | apply Ext.alloc))⟩) (fun hHeld => ?_)
  clear hK K
  (try simp only [Act.put, List.setIfInBounds_toArray, List.set_cons_zero, List.set_cons_succ, List.getElem_toArray, List.getElem_cons_zero, List.getElem_cons_succ])
  (refine takeOn (i := 8) (v := ?_) (by kernel_rfl) (by rfl) (by rfl) (by kernel_rfl) (by kernel_rfl) (by intro _ _ _ h; exact h) ?_ (by assumption) ?_); (rotate_left 1); (focus ((intro w hSw); (try dsimp only at hSw); go_simp; (first | done | with_reducible rfl | (rw [if_neg]; (try simp only [ByteArray.size_append, ByteArray.size_mk, List.size_toArray, List.length_cons, List.length_nil]); omega) | trace_state))); (try simp only [Act.put, List.setIfInBounds_toArray, List.set_cons_zero, List.set_cons_succ, List.getElem_toArray, List.getElem_cons_zero, List.getElem_cons_succ])
  (refine takeOn (i := 9) (v := ?_) (by kernel_rfl) (by rfl) (by rfl) (by kernel_rfl) (by kernel_rfl) (by intro _ _ _ h; exact h) ?_ (by assumption) ?_); (rotate_left 1); (focus ((intro w hSw); (try dsimp only at hSw); go_simp; (first | done | with_reducible rfl | (rw [if_neg]; (try simp only [ByteArray.size_append, ByteArray.size_mk, List.size_toArray, List.length_cons, List.length_nil]); omega) | trace_state))); (try simp only [Act.put, List.setIfInBounds_toArray, List.set_cons_zero, List.set_cons_succ, List.getElem_toArray, List.getElem_cons_zero, List.getElem_cons_succ])
  refine takeOne (i := 12) (by kernel_rfl) (by rfl) (by rfl) (fun K hK => ?_)
  go_simp; (go_at_call 97; (with_reducible refine Calls.mono (cC _ (hE.trans (by repeat (first | assumption | exact Ext.refl _ | (apply And.left; assumption) | apply Ext.drew | apply Ext.alloc)))) ?_); rintro e wH ⟨rfl, hX⟩; have hH := Ext.trans (a := w2) (by repeat (first | assumption | exact Ext.refl _ | (apply And.left; assumption) | apply Ext.drew | apply Ext.alloc)) hX; (try (clear hX)))
  refine hK.out _ _ (by exact ⟨(by repeat (first | assumption | exact Ext.refl _ | (apply And.left; assumption) | apply Ext.drew | apply Ext.alloc)), kb _ (by repeat (first | assumption | exact Ext.refl _ | (apply And.left; assumption) | apply Ext.drew | apply Ext.alloc))⟩) (fun hHeld => ?_)
  clear hK K
  (try simp only [Act.put, List.setIfInBounds_toArray, List.set_cons_zero, List.set_cons_succ, List.getElem_toArray, List.getElem_cons_zero, List.getElem_cons_succ])
  (refine takeOn (i := 13) (v := ?_) (by kernel_rfl) (by rfl) (by rfl) (by kernel_rfl) (by kernel_rfl) (by intro _ _ _ h; exact h) ?_ (by assumption) ?_); (rotate_left 1); (focus ((intro w hSw); (try dsimp only at hSw); go_simp; (first | done | with_reducible rfl | (rw [if_neg]; (try simp only [ByteArray.size_append, ByteArray.size_mk, List.size_toArray, List.length_cons, List.length_nil]); omega) | trace_state))); (try simp only [Act.put, List.setIfInBounds_toArray, List.set_cons_zero, List.set_cons_succ, List.getElem_toArray, List.getElem_cons_zero, List.getElem_cons_succ])
  (refine takeOn (i := 14) (v := ?_) (by kernel_rfl) (by rfl) (by rfl) (by kernel_rfl) (by kernel_rfl) (by intro _ _ _ h; exact h) ?_ (by assumption) ?_); (rotate_left 1); (focus ((intro w hSw); (try dsimp only at hSw); go_simp; (first | done | with_reducible rfl | (rw [if_neg]; (try simp only [ByteArray.size_append, ByteArray.size_mk, List.size_toArray, List.length_cons, List.length_nil]); omega) | trace_state))); (try simp only [Act.put, List.setIfInBounds_toArray, List.set_cons_zero, List.set_cons_succ, List.getElem_toArray, List.getElem_cons_zero, List.getElem_cons_succ])
  refine takeOne (i := 18) (by kernel_rfl) (by rfl) (by rfl) (fun K hK => ?_)
  go_simp; (go_at_call 98; (with_reducible refine Calls.mono (cD0 _ (hE.trans (by repeat (first | assumption | exact Ext.refl _ | (apply And.left; assumption) | apply Ext.drew | apply Ext.alloc)))) ?_); rintro e wH ⟨rfl, hX⟩; have hH := Ext.trans (a := w2) (by repeat (first | assumption | exact Ext.refl _ | (apply And.left; assumption) | apply Ext.drew | apply Ext.alloc)) hX; (try (clear hX)))
  refine hK.out _ _ (by exact ⟨(by repeat (first | assumption | exact Ext.refl _ | (apply And.left; assumption) | apply Ext.drew | apply Ext.alloc)), kb _ (by repeat (first | assumption | exact Ext.refl _ | (apply And.left; assumption) | apply Ext.drew | apply Ext.alloc))⟩) (fun hHeld => ?_)
  clear hK K
  (try simp only [Act.put, List.setIfInBounds_toArray, List.set_cons_zero, List.set_cons_succ, List.getElem_toArray, List.getElem_cons_zero, List.getElem_cons_succ])
  refine takeOne (i := 19) (by kernel_rfl) (by rfl) (by rfl) (fun K hK => ?_)
  go_simp; (go_at_call 95; (with_reducible refine Calls.mono (cD _ (hE.trans (by repeat (first | assumption | exact Ext.refl _ | (apply And.left; assumption) | apply Ext.drew | apply Ext.alloc)))) ?_); rintro e wH ⟨rfl, hX⟩; have hH := Ext.trans (a := w2) (by repeat (first | assumption | exact Ext.refl _ | (apply And.left; assumption) | apply Ext.drew | apply Ext.alloc)) hX; (try (clear hX)))
  refine hK.out _ _ (by exact ⟨(by repeat (first | assumption | exact Ext.refl _ | (apply And.left; assumption) | apply Ext.drew | apply Ext.alloc)), kb _ (by repeat (first | assumption | exact Ext.refl _ | (apply And.left; assumption) | apply Ext.drew | apply Ext.alloc))⟩) (fun hHeld => ?_)
  clear hK K
  (try simp only [Act.put, List.setIfInBounds_toArray, List.set_cons_zero, List.set_cons_succ, List.getElem_toArray, List.getElem_cons_zero, List.getElem_cons_succ])
  (refine takeOn (i := 20) (v := ?_) (by kernel_rfl) (by rfl) (by rfl) (by kernel_rfl) (by kernel_rfl) (by intro _ _ _ h; exact h) ?_ (by assumption) ?_); (rotate_left 1); (focus ((intro w hSw); (try dsimp only at hSw); go_simp; (first | done | with_reducible rfl | (rw [if_neg]; (try simp only [ByteArray.size_append, ByteArray.size_mk, List.size_toArray, List.length_cons, List.length_nil]); omega) | trace_state))); (try simp only [Act.put, List.setIfInBounds_toArray, List.set_cons_zero, List.set_cons_succ, List.getElem_toArray, List.getElem_cons_zero, List.getElem_cons_succ])
  (refine takeOn (i := 21) (v := ?_) (by kernel_rfl) (by rfl) (by rfl) (by kernel_rfl) (by kernel_rfl) (by intro _ _ _ h; exact h) ?_ (by assumption) ?_); (rotate_left 1); (focus ((intro w hSw); (try dsimp only at hSw); go_simp; (first | done | with_reducible rfl | (rw [if_neg]; (try simp only [ByteArray.size_append, ByteArray.size_mk, List.size_toArray, List.length_cons, List.length_nil]); omega) | trace_state))); (try simp only [Act.put, List.setIfInBounds_toArray, List.set_cons_zero, List.set_cons_succ, List.getElem_toArray, List.getElem_cons_zero, List.getElem_cons_succ])
  refine takeOne (i := 24) (by kernel_rfl) (by rfl) (by rfl) (fun K hK => ?_)
  go_simp; (go_at_call 100; (with_reducible refine Calls.mono (cE0 _ (hE.trans (by repeat (first | assumption | exact Ext.refl _ | (apply And.left; assumption) | apply Ext.drew | apply Ext.alloc)))) ?_); rintro e wH ⟨vG, rfl, hOG, hX⟩; have hH := Ext.trans (a := w2) (by repeat (first | assumption | exact Ext.refl _ | (apply And.left; assumption) | apply Ext.drew | apply Ext.alloc)) hX; (try (clear hX)))
  refine hK.out _ _ (by exact ⟨(by repeat (first | assumption | exact Ext.refl _ | (apply And.left; assumption) | apply Ext.drew | apply Ext.alloc)), kb _ (by repeat (first | assumption | exact Ext.refl _ | (apply And.left; assumption) | apply Ext.drew | apply Ext.alloc))⟩) (fun hHeld => ?_)
  clear hK K
  (try simp only [Act.put, List.setIfInBounds_toArray, List.set_cons_zero, List.set_cons_succ, List.getElem_toArray, List.getElem_cons_zero, List.getElem_cons_succ])
  refine takeOne (i := 25) (by kernel_rfl) (by rfl) (by rfl) (fun K hK => ?_)
  go_simp; (go_at_call 99; (with_reducible refine Calls.mono (cE _ _ (by first | exact hOG.ints | exact hOG.ints.ext (by repeat (first | assumption | exact Ext.refl _ | (apply And.left; assumption) | apply Ext.drew | apply Ext.alloc)))) ?_); rintro e wH ⟨rfl, hX⟩; have hH := Ext.trans (a := w2) (by repeat (first | assumption | exact Ext.refl _ | (apply And.left; assumption) | apply Ext.drew | apply Ext.alloc)) hX; (try (clear hX)))
  refine hK.out _ _ (by exact ⟨(by repeat (first | assumption | exact Ext.refl _ | (apply And.left; assumption) | apply Ext.drew | apply Ext.alloc)), kb _ (by repeat (first | assumption | exact Ext.refl _ | (apply And.left; assumption) | apply Ext.drew | apply Ext.alloc))⟩) (fun hHeld => ?_)
  clear hK K
  (try simp only [Act.put, List.setIfInBounds_toArray, List.set_cons_zero, List.set_cons_succ, List.getElem_toArray, List.getElem_cons_zero, List.getElem_cons_succ])
  (refine takeOn (i := 26) (v := ?_) (by kernel_rfl) (by rfl) (by rfl) (by kernel_rfl) (by kernel_rfl) (by intro _ _ _ h; exact h) ?_ (by assumption) ?_); (rotate_left 1); (focus ((intro w hSw); (try dsimp only at hSw); go_simp; (first | done | with_reducible rfl | (rw [if_neg]; (try simp only [ByteArray.size_append, ByteArray.size_mk, List.size_toArray, List.length_cons, List.length_nil]); omega) | trace_state))); (try simp only [Act.put, List.setIfInBounds_toArray, List.set_cons_zero, List.set_cons_succ, List.getElem_toArray, List.getElem_cons_zero, List.getElem_cons_succ])
  (refine takeOn (i := 27) (v := ?_) (by kernel_rfl) (by rfl) (by rfl) (by kernel_rfl) (by kernel_rfl) (by intro _ _ _ h; exact h) ?_ (by assumption) ?_); (rotate_left 1); (focus ((intro w hSw); (try dsimp only at hSw); go_simp; (first | done | with_reducible rfl | (rw [if_neg]; (try simp only [ByteArray.size_append, ByteArray.size_mk, List.size_toArray, List.length_cons, List.length_nil]); omega) | trace_state))); (try simp only [Act.put, List.setIfInBounds_toArray, List.set_cons_zero, List.set_cons_succ, List.getElem_toArray, List.getElem_cons_zero, List.getElem_cons_succ])
  refine takeOne (i := 31) (by kernel_rfl) (by rfl) (by rfl) (fun K hK => ?_)
  go_simp; (go_at_call 16; (with_reducible refine Calls.mono (cF0 _ (hE.trans (by repeat (first | assumption | exact Ext.refl _ | (apply And.left; assumption) | apply Ext.drew | apply Ext.alloc)))) ?_); rintro e wH ⟨rfl, hX⟩; have hH := Ext.trans (a := w2) (by repeat (first | assumption | exact Ext.refl _ | (apply And.left; assumption) | apply Ext.drew | apply Ext.alloc)) hX; (try (clear hX)))
  refine hK.out _ _ (by exact ⟨(by repeat (first | assumption | exact Ext.refl _ | (apply And.left; assumption) | apply Ext.drew | apply Ext.alloc)), kb _ (by repeat (first | assumption | exact Ext.refl _ | (apply And.left; assumption) | apply Ext.drew | apply Ext.alloc))⟩) (fun hHeld => ?_)
  clear hK K
  (try simp only [Act.put, List.setIfInBounds_toArray, List.set_cons_zero, List.set_cons_succ, List.getElem_toArray, List.getElem_cons_zero, List.getElem_cons_succ])
  refine takeOne (i := 32) (by kernel_rfl) (by rfl) (by rfl) (fun K hK => ?_)
  go_simp; (go_at_call 96; (with_reducible refine Calls.mono (cF _) ?_); rintro e wH ⟨rfl, hX⟩; have hH := Ext.trans (a := w2) (by repeat (first | assumption | exact Ext.refl _ | (apply And.left; assumption) | apply Ext.drew | apply Ext.alloc)) hX; (try (clear hX)))
  refine hK.out _ _ (by exact ⟨(by repeat (first | assumption | exact Ext.refl _ | (apply And.left; assumption) | apply Ext.drew | apply Ext.alloc)), kb _ (by repeat (first | assumption | exact Ext.refl _ | (apply And.left; assumption) | apply Ext.drew | apply Ext.alloc))⟩) (fun hHeld => ?_)
  clear hK K
  (try simp only [Act.put, List.setIfInBounds_toArray, List.set_cons_zero, List.set_cons_succ, List.getElem_toArray, List.getElem_cons_zero, List.getElem_cons_succ])
  (refine takeOn (i := 33) (v := ?_) (by kernel_rfl) (by rfl) (by rfl) (by kernel_rfl) (by kernel_rfl) (by intro _ _ _ h; exact h) ?_ (by assumption) ?_); (rotate_left 1); (focus ((intro w hSw); (try dsimp only at hSw); go_simp; (first | done | with_reducible rfl | (rw [if_neg]; (try simp only [ByteArray.size_append, ByteArray.size_mk, List.size_toArray, List.length_cons, List.length_nil]); omega) | trace_state))); (try simp only [Act.put, List.setIfInBounds_toArray, List.set_cons_zero, List.set_cons_succ, List.getElem_toArray, List.getElem_cons_zero, List.getElem_cons_succ])
  (refine takeOn (i := 34) (v := ?_) (by kernel_rfl) (by rfl) (by rfl) (by kernel_rfl) (by kernel_rfl) (by intro _ _ _ h; exact h) ?_ (by assumption) ?_); (rotate_left 1); (focus ((intro w hSw); (try dsimp only at hSw); go_simp; (first | done | with_reducible rfl | (rw [if_neg]; (try simp only [ByteArray.size_append, ByteArray.size_mk, List.size_toArray, List.length_cons, List.length_nil]); omega) | trace_state))); (try simp only [Act.put, List.setIfInBounds_toArray, List.set_cons_zero, List.set_cons_succ, List.getElem_toArray, List.getElem_cons_zero, List.getElem_cons_succ])
  refine takeOne (i := 37) (by kernel_rfl) (by rfl) (by rfl) (fun K hK => ?_)
  go_simp; (go_at_call 101; (with_reducible refine Calls.mono (cG0 _ (hE.trans (by repeat (first | assumption | exact Ext.refl _ | (apply And.left; assumption) | apply Ext.drew | apply Ext.alloc)))) ?_); rintro e wH ⟨rfl, hX⟩; have hH := Ext.trans (a := w2) (by repeat (first | assumption | exact Ext.refl _ | (apply And.left; assumption) | apply Ext.drew | apply Ext.alloc)) hX; (try (clear hX)))
  refine hK.out _ _ (by exact ⟨(by repeat (first | assumption | exact Ext.refl _ | (apply And.left; assumption) | apply Ext.drew | apply Ext.alloc)), kb _ (by repeat (first | assumption | exact Ext.refl _ | (apply And.left; assumption) | apply Ext.drew | apply Ext.alloc))⟩) (fun hHeld => ?_)
  clear hK K
  (try simp only [Act.put, List.setIfInBounds_toArray, List.set_cons_zero, List.set_cons_succ, List.getElem_toArray, List.getElem_cons_zero, List.getElem_cons_succ])
  refine takeOne (i := 38) (by kernel_rfl) (by rfl) (by rfl) (fun K hK => ?_)
  go_simp; (go_at_call 96; (with_reducible refine Calls.mono (cG _) ?_); rintro e wH ⟨rfl, hX⟩; have hH := Ext.trans (a := w2) (by repeat (first | assumption | exact Ext.refl _ | (apply And.left; assumption) | apply Ext.drew | apply Ext.alloc)) hX; (try (clear hX)))
  refine hK.out _ _ (by exact ⟨(by repeat (first | assumption | exact Ext.refl _ | (apply And.left; assumption) | apply Ext.drew | apply Ext.alloc)), kb _ (by repeat (first | assumption | exact Ext.refl _ | (apply And.left; assumption) | apply Ext.drew | apply Ext.alloc))⟩) (fun hHeld => ?_)
  clear hK K
  (try simp only [Act.put, List.setIfInBounds_toArray, List.set_cons_zero, List.set_cons_succ, List.getElem_toArray, List.getElem_cons_zero, List.getElem_cons_succ])
  (refine takeOn (i := 39) (v := ?_) (by kernel_rfl) (by rfl) (by rfl) (by kernel_rfl) (by kernel_rfl) (by intro _ _ _ h; exact h) ?_ (by assumption) ?_); (rotate_left 1); (focus ((intro w hSw); (try dsimp only at hSw); go_simp; (first | done | with_reducible rfl | (rw [if_neg]; (try simp only [ByteArray.size_append, ByteArray.size_mk, List.size_toArray, List.length_cons, List.length_nil]); omega) | trace_state))); (try simp only [Act.put, List.setIfInBounds_toArray, List.set_cons_zero, List.set_cons_succ, List.getElem_toArray, List.getElem_cons_zero, List.getElem_cons_succ])
  (refine takeOn (i := 40) (v := ?_) (by kernel_rfl) (by rfl) (by rfl) (by kernel_rfl) (by kernel_rfl) (by intro _ _ _ h; exact h) ?_ (by assumption) ?_); (rotate_left 1); (focus ((intro w hSw); (try dsimp only at hSw); go_simp; (try with_reducible rfl))); (try simp only [Act.put, List.setIfInBounds_toArray, List.set_cons_zero, List.set_cons_succ, List.getElem_toArray, List.getElem_cons_zero, List.getElem_cons_succ])
  refine wpAnyH_done (by kernel_rfl) ?_ _
  skip
  have hE3 := hE.trans hH
  have kc3 := fun U => hb _ (hE3.trans (lat_ext wH U))
  replace hE := Ext.refl wH
  go_wp2_with fail
  (refine wp_region_lat (wH) (by kernel_rfl) (by kernel_rfl) hE ?_); (repeat (go_big_quiet_step (first | (go_at_call 103; with_reducible exact Calls.lat (c1 _ (hE3.trans (lat_ext wH _)))) | (go_at_call 104; with_reducible exact Calls.lat (c2 _ (hE3.trans (lat_ext wH _)))) | (go_at_call 105; with_reducible exact Calls.lat (c3 _ (hE3.trans (lat_ext wH _)))) | (go_at_call 106; with_reducible exact Calls.lat (c4 _ (hE3.trans (lat_ext wH _)))) | (go_at_call 102; first | with_reducible exact Calls.lat_same (cY0 _) | with_reducible exact Calls.lat_same (cY1 _) | with_reducible exact Calls.lat_same (cY2 _) | with_reducible exact Calls.lat_same (cY3 _))))); (refine wpQuiet_nil ?_); (intro W hE'); (replace hE := lat_of hE'); (clear hE')
  go_wp2_with fail
  go_ret
  exact ⟨ret_str (by rw [Hs.out, Hy0.out, Hy1.out, Hy2.out, Hy3.out]), hE0.trans (hE3.trans hE)⟩
end Go.Zz
