/- HasPeriodicFactor of both. -/
import Derived.Test.YtgmbjfjihhdenaaLsT
import Derived.Test.YtgmbjfjihhdenaaGr8
import Derived.Test.YtgmbjfjihhdenaaGr3
import Derived.Test.YtgmbjfjihhdenaaGr9
import Derived.Deep.RegionHeld3
namespace Go.Zz
open Go.RowKit Go.Proofs
set_option maxHeartbeats 1000000
set_option maxRecDepth 4000

def hpF (l : List Int) (a b : Int) : Bool := tilF l a b && (perF l a || perF l b)
theorem HasPeriodicFactor_any (v : Value) (l : List Int) (a b : Int) (w : World) (h : Ints w v l) :
    Calls Try.prog 126 #[.agg #[v], .int .i64 a, .int .i64 b] w fun e w' => e = .returned (.bool (hpF l a b)) ∧ Ext w w' := by
  obtain ⟨wb, hwb⟩ : ∃ wb, wb = w.alloc (.cells #[v] 31) := ⟨_, rfl⟩
  have hE0 := (Ext.refl w).alloc (.cells #[v] 31)
  have hb := box_cell w v 31
  rw [← hwb] at hE0 hb
  have hg : ∀ W, Ext wb W → Ints W v l := fun W hW => h.ext (hE0.trans hW)
  have hE := Ext.refl wb
  have Hsz : Hid (w.heap.size + 1 = wb.heap.size) := Lib.hid (by rw [hwb]; simp [go_sem])
  have Hwb := Lib.hid hwb
  clear hwb h
  have kb := hb _ hE
  have cT := fun W (hW : Ext wb W) => IsTiling_any v l a b W (hg _ hW)
  have cP := fun W (hW : Ext wb W) => IsPeriodic_any v l a W (hg _ hW)
  have cQ := fun W (hW : Ext wb W) => IsPeriodic_any v l b W (hg _ hW)
  have Hs : Hid (hpF l a b = (tilF l a b && (perF l a || perF l b))) := Lib.hid rfl
  obtain ⟨t, ht⟩ : ∃ t, t = tilF l a b := ⟨_, rfl⟩
  obtain ⟨p, hp⟩ : ∃ p, p = perF l a := ⟨_, rfl⟩
  obtain ⟨q, hq⟩ : ∃ q, q = perF l b := ⟨_, rfl⟩
  rw [← ht] at cT Hs
  rw [← hp] at cP Hs
  rw [← hq] at cQ Hs
  clear ht hp hq
  cases t <;> cases p <;> cases q
  all_goals
    go_enter Try.func126, Try.ntmps126
    go_wp2_with fail
    rw [← Hwb.out]
    go_wp2_with (first | (go_at_call 208; refine (cT _ hE).mono ?_; rintro e w1 ⟨rfl, hE1⟩; replace hE := hE.trans hE1; have kb1 := hb _ hE) | (go_at_call 209; (first | with_reducible refine Calls.mono (cP _ hE) ?_ | with_reducible refine Calls.mono (cQ _ hE) ?_); rintro e w2 ⟨rfl, hE2⟩; replace hE := hE.trans hE2; have kb2 := hb _ hE))
    go_ret
    exact ⟨ret_bool Hs.out.symm, hE0.trans hE⟩
theorem sHasPeriodicFactor_any (v : Value) (l : List Int) (a b : Int) (w : World) (h : Ints w v l) :
    Calls Try.prog 124 #[.agg #[v], .int .i64 a, .int .i64 b] w fun e w' => e = .returned (.bool (hpF l a b)) ∧ Ext w w' := by
  obtain ⟨wb, hwb⟩ : ∃ wb, wb = w.alloc (.cells #[v] 31) := ⟨_, rfl⟩
  have hE0 := (Ext.refl w).alloc (.cells #[v] 31)
  have hb := box_cell w v 31
  rw [← hwb] at hE0 hb
  have hg : ∀ W, Ext wb W → Ints W v l := fun W hW => h.ext (hE0.trans hW)
  have hE := Ext.refl wb
  have Hsz : Hid (w.heap.size + 1 = wb.heap.size) := Lib.hid (by rw [hwb]; simp [go_sem])
  have Hwb := Lib.hid hwb
  clear hwb h
  have kb := hb _ hE
  have cT := fun W (hW : Ext wb W) => sIsTiling_any v l a b W (hg _ hW)
  have cP := fun W (hW : Ext wb W) => sIsPeriodic_any v l a W (hg _ hW)
  have cQ := fun W (hW : Ext wb W) => sIsPeriodic_any v l b W (hg _ hW)
  have Hs : Hid (hpF l a b = (tilF l a b && (perF l a || perF l b))) := Lib.hid rfl
  obtain ⟨t, ht⟩ : ∃ t, t = tilF l a b := ⟨_, rfl⟩
  obtain ⟨p, hp⟩ : ∃ p, p = perF l a := ⟨_, rfl⟩
  obtain ⟨q, hq⟩ : ∃ q, q = perF l b := ⟨_, rfl⟩
  rw [← ht] at cT Hs
  rw [← hp] at cP Hs
  rw [← hq] at cQ Hs
  clear ht hp hq
  cases t <;> cases p <;> cases q
  all_goals
    go_enter Try.func124, Try.ntmps124
    go_wp2_with fail
    rw [← Hwb.out]
    go_wp2_with (first | (go_at_call 205; refine (cT _ hE).mono ?_; rintro e w1 ⟨rfl, hE1⟩; replace hE := hE.trans hE1; have kb1 := hb _ hE) | (go_at_call 206; (first | with_reducible refine Calls.mono (cP _ hE) ?_ | with_reducible refine Calls.mono (cQ _ hE) ?_); rintro e w2 ⟨rfl, hE2⟩; replace hE := hE.trans hE2; have kb2 := hb _ hE))
    go_ret
    exact ⟨ret_bool Hs.out.symm, hE0.trans hE⟩
end Go.Zz

/- TileLine of the program and of the reference. -/
namespace Go.Zz
open Go.RowKit Go.Proofs
set_option maxHeartbeats 2000000
set_option maxRecDepth 8000

theorem tlN_le (l : List Int) (a : Int) : tlN l a ≤ 200 := by
  cases h : isOneB l a
  · rw [tlN_no h]; omega
  · obtain ⟨n, rfl, -⟩ := isOneB_nat h
    rw [tlN_yes h]; exact tlS_len _ _ _ _ _ _ (by omega)
theorem meetF_bd (l : List Int) (a : Int) : -1 ≤ meetF l a ∧ meetF l a ≤ 50 := by
  cases h : isSetB l a
  · rw [meetF_no h]; omega
  · obtain ⟨n, rfl, h1, h2, hg⟩ := isSetB_nat h
    by_cases h0 : n = 0
    · subst h0
      have : meetF l ((0 : Nat) : Int) = -1 := meetF_zero l
      rw [this]; omega
    · rw [meetF_yes h (by omega)]
      have hb1 := ord_bd hg
      have hb2 := cnt_pos (by omega) h2
      have hb3 := cnt_le n
      have e1 : 0 ≤ ((ord l : Int) + cnt n - 1) / (cnt n : Int) := Int.ediv_nonneg (by omega) (by omega)
      have e2 : ((ord l : Int) + cnt n - 1) / (cnt n : Int) ≤ (ord l : Int) + cnt n - 1 := Int.ediv_le_self _ (by omega)
      omega
def tlnF (l : List Int) (a : Int) : ByteArray :=
  if isOneB l a then
    (fun (A B C D : ByteArray) (fb pf : Bool) => (((((if fb then ((((⟨#[116, 105, 108, 101, 115, 32]⟩ : ByteArray) ++ A) ++ (⟨#[32, 102, 105, 114, 115, 116, 32]⟩ : ByteArray)) ++ B) ++ (if pf then (⟨#[32, 112, 101, 114, 105, 111, 100, 105, 99]⟩ : ByteArray) else ⟨#[]⟩) else ((⟨#[116, 105, 108, 101, 115, 32]⟩ : ByteArray) ++ A)) ++ (⟨#[32, 103, 114, 101, 101, 100, 121, 32]⟩ : ByteArray)) ++ C) ++ (⟨#[32, 108, 101, 97, 115, 116, 32]⟩ : ByteArray)) ++ D)) (fmtB (tlN l a : Nat)) (fsF l (ftV l a)) (fsF l (greedyF l a)) (fmtB (meetF l a)) (ftB l a) (hpF l a (ftV l a))
  else ⟨#[]⟩
theorem tln_no {l : List Int} {a : Int} (h : isOneB l a = false) : tlnF l a = ⟨#[]⟩ := by unfold tlnF; rw [h]; rfl
theorem tln_yes {l : List Int} {a : Int} (h : isOneB l a = true) : tlnF l a = (fun (A B C D : ByteArray) (fb pf : Bool) => (((((if fb then ((((⟨#[116, 105, 108, 101, 115, 32]⟩ : ByteArray) ++ A) ++ (⟨#[32, 102, 105, 114, 115, 116, 32]⟩ : ByteArray)) ++ B) ++ (if pf then (⟨#[32, 112, 101, 114, 105, 111, 100, 105, 99]⟩ : ByteArray) else ⟨#[]⟩) else ((⟨#[116, 105, 108, 101, 115, 32]⟩ : ByteArray) ++ A)) ++ (⟨#[32, 103, 114, 101, 101, 100, 121, 32]⟩ : ByteArray)) ++ C) ++ (⟨#[32, 108, 101, 97, 115, 116, 32]⟩ : ByteArray)) ++ D)) (fmtB (tlN l a : Nat)) (fsF l (ftV l a)) (fsF l (greedyF l a)) (fmtB (meetF l a)) (ftB l a) (hpF l a (ftV l a)) := by
  unfold tlnF; rw [if_pos h]
theorem tln_line (A B C D : ByteArray) (fb pf : Bool) : lineF [(if fb && pf then lineF [(if fb then lineF [lineF [(⟨#[116, 105, 108, 101, 115]⟩ : ByteArray), A], (⟨#[102, 105, 114, 115, 116]⟩ : ByteArray), B] else lineF [(⟨#[116, 105, 108, 101, 115]⟩ : ByteArray), A]), (⟨#[112, 101, 114, 105, 111, 100, 105, 99]⟩ : ByteArray)] else (if fb then lineF [lineF [(⟨#[116, 105, 108, 101, 115]⟩ : ByteArray), A], (⟨#[102, 105, 114, 115, 116]⟩ : ByteArray), B] else lineF [(⟨#[116, 105, 108, 101, 115]⟩ : ByteArray), A])), (⟨#[103, 114, 101, 101, 100, 121]⟩ : ByteArray), C, (⟨#[108, 101, 97, 115, 116]⟩ : ByteArray), D] = (((((if fb then ((((⟨#[116, 105, 108, 101, 115, 32]⟩ : ByteArray) ++ A) ++ (⟨#[32, 102, 105, 114, 115, 116, 32]⟩ : ByteArray)) ++ B) ++ (if pf then (⟨#[32, 112, 101, 114, 105, 111, 100, 105, 99]⟩ : ByteArray) else ⟨#[]⟩) else ((⟨#[116, 105, 108, 101, 115, 32]⟩ : ByteArray) ++ A)) ++ (⟨#[32, 103, 114, 101, 101, 100, 121, 32]⟩ : ByteArray)) ++ C) ++ (⟨#[32, 108, 101, 97, 115, 116, 32]⟩ : ByteArray)) ++ D) := by
  apply bytes_ext
  cases fb <;> cases pf <;> simp [lineF, jn, nthS, spB, List.getD]

theorem TileLine_any (v : Value) (l : List Int) (a : Int) (w : World) (h : Ints w v l) :
    Calls Try.prog 19 #[.agg #[v], .int .i64 a] w fun e w' => e = .returned (.string (tlnF l a)) ∧ Ext w w' := by
  obtain ⟨wb, hwb⟩ : ∃ wb, wb = w.alloc (.cells #[v] 31) := ⟨_, rfl⟩
  have hE0 := (Ext.refl w).alloc (.cells #[v] 31)
  have hb := box_cell w v 31
  rw [← hwb] at hE0 hb
  have hg : ∀ W, Ext wb W → Ints W v l := fun W hW => h.ext (hE0.trans hW)
  have hE := Ext.refl wb
  have Hsz : Hid (w.heap.size + 1 = wb.heap.size) := Lib.hid (by rw [hwb]; simp [go_sem])
  have Hwb := Lib.hid hwb
  clear hwb h
  have cT := TilesOf_any v l a wb (hg _ hE)
  have hbx := hb wb hE
  cases ho : isOneB l a
  · have Hs := Lib.hid (tln_no ho)
    rw [ho] at cT
    go_enter Try.func19, Try.ntmps19
    go_wp2_with fail
    rw [← Hwb.out]
    refine cT.mono ?_
    rintro e w1 ⟨vT, L, rfl, hI, -, hE1⟩
    obtain ⟨aT, kT, rfl, -⟩ := hI
    go_wp2_with fail
    go_ret
    exact ⟨ret_str Hs.out.symm, hE0.trans hE1⟩
  have Hs := Lib.hid (tln_yes ho)
  rw [ho] at cT
  have hN := tlN_le l a
  have hM := meetF_bd l a
  have sA := fmtB_size (n := ((tlN l a : Nat) : Int)) (by omega)
  have sB := fsF_size l (ftV l a)
  have sC := fsF_size l (greedyF l a)
  have sD := fmtB_size (n := meetF l a) (by omega)
  have cA := fun W => FormatInt_any ((tlN l a : Nat) : Int) (by omega) W
  have cB := fun W (hW : Ext wb W) => FormatSet_any v l (ftV l a) W (hg W hW)
  have cC := fun W (hW : Ext wb W) => FormatSet_any v l (greedyF l a) W (hg W hW)
  have cD := fun W => FormatInt_any (meetF l a) (by omega) W
  have cF := fun W (hW : Ext wb W) => FindTile_any v l a W (hg W hW)
  have cG := fun W (hW : Ext wb W) => GreedyTranslates_any v l a W (hg W hW)
  have cM := fun W (hW : Ext wb W) => MeetingBound_any v l a W (hg W hW)
  have cP := fun W (hW : Ext wb W) => HasPeriodicFactor_any v l a (ftV l a) W (hg W hW)
  obtain ⟨A, hA⟩ : ∃ x, x = fmtB ((tlN l a : Nat) : Int) := ⟨_, rfl⟩
  obtain ⟨B, hB⟩ : ∃ x, x = fsF l (ftV l a) := ⟨_, rfl⟩
  obtain ⟨C, hC⟩ : ∃ x, x = fsF l (greedyF l a) := ⟨_, rfl⟩
  obtain ⟨D, hD⟩ : ∃ x, x = fmtB (meetF l a) := ⟨_, rfl⟩
  obtain ⟨pf, hpf⟩ : ∃ x, x = hpF l a (ftV l a) := ⟨_, rfl⟩
  obtain ⟨fb, hfb⟩ : ∃ x, x = ftB l a := ⟨_, rfl⟩
  rw [← hA] at cA sA Hs
  rw [← hB] at cB sB Hs
  rw [← hC] at cC sC Hs
  rw [← hD] at cD sD Hs
  rw [← hpf] at cP Hs
  rw [← hfb] at cF Hs
  obtain ⟨N, hNd⟩ : ∃ x, x = tlN l a := ⟨_, rfl⟩
  obtain ⟨fv, hfv⟩ : ∃ x, x = ftV l a := ⟨_, rfl⟩
  obtain ⟨gv, hgv⟩ : ∃ x, x = greedyF l a := ⟨_, rfl⟩
  obtain ⟨mv, hmv⟩ : ∃ x, x = meetF l a := ⟨_, rfl⟩
  rw [← hNd] at cT cA hN
  rw [← hfv] at cB cF cP
  rw [← hgv] at cC cG
  rw [← hmv] at cD cM hM
  rw [ho] at cG
  clear hA hB hC hD hpf hfb hNd hfv hgv hmv ho

  have hln_X0 : ∀ i, i < ([(⟨#[116, 105, 108, 101, 115]⟩ : ByteArray), A] : List ByteArray).length → (nthS [(⟨#[116, 105, 108, 101, 115]⟩ : ByteArray), A] i).size ≤ 5000 := by
    intro i hi
    match i, hi with
    | 0, _ => exact (by decide : ((⟨#[116, 105, 108, 101, 115]⟩ : ByteArray) : ByteArray).size ≤ 5000)
    | 1, _ => exact Nat.le_trans sA (by decide)
  have z0 : (lineF [(⟨#[116, 105, 108, 101, 115]⟩ : ByteArray), A]).size ≤ 100 := by
    simp only [lineF, jn, nthS, spB, List.getD, List.length_cons, List.length_nil, ByteArray.size_append]
    simp [ByteArray.size_append]
    have q0 : (⟨#[]⟩ : ByteArray).size = 0 := rfl
    have q1 : (⟨#[32]⟩ : ByteArray).size = 1 := rfl
    have r0 : (⟨#[116, 105, 108, 101, 115]⟩ : ByteArray).size = 5 := rfl
    have r1 := sA
    omega
  obtain ⟨X0, hX0⟩ : ∃ x, x = lineF [(⟨#[116, 105, 108, 101, 115]⟩ : ByteArray), A] := ⟨_, rfl⟩
  rw [← hX0] at z0
  have cL0 : ∀ (W : World), Calls Try.prog 98 #[.slice (some ⟨W.heap.size, 0, none⟩) 2 2] (W.alloc (.cells #[.string (⟨#[116, 105, 108, 101, 115]⟩ : ByteArray), .string A] 9)) fun e w' => e = .returned (.string X0) ∧ Ext (W.alloc (.cells #[.string (⟨#[116, 105, 108, 101, 115]⟩ : ByteArray), .string A] 9)) w' := fun W =>
    (line_any _ _ _ (strs_lit W [(⟨#[116, 105, 108, 101, 115]⟩ : ByteArray), A] 9 (by simp)) hln_X0 (by simp)).mono fun e w' ⟨h1, h2⟩ => ⟨by rw [h1, hX0], by rw [← h2]; exact Ext.refl _⟩
  have z1 : (if fb then lineF [X0, (⟨#[102, 105, 114, 115, 116]⟩ : ByteArray), B] else X0).size ≤ 800 := by
    cases fb
    · exact Nat.le_trans z0 (by decide)
    · have q0 : (⟨#[]⟩ : ByteArray).size = 0 := rfl
      have q1 : (⟨#[32]⟩ : ByteArray).size = 1 := rfl
      have rX := z0
      have r0 : (⟨#[102, 105, 114, 115, 116]⟩ : ByteArray).size = 5 := rfl
      have r1 := sB
      simp [lineF, jn, nthS, spB, List.getD, ByteArray.size_append]; omega
  obtain ⟨X1, hX1⟩ : ∃ x, x = (if fb then lineF [X0, (⟨#[102, 105, 114, 115, 116]⟩ : ByteArray), B] else X0) := ⟨_, rfl⟩
  rw [← hX1] at z1
  have cI1 : ∀ (W : World), Calls Try.prog 102 #[.string X0, .bool fb, .slice (some ⟨W.heap.size, 0, none⟩) 2 2] (W.alloc (.cells #[.string (⟨#[102, 105, 114, 115, 116]⟩ : ByteArray), .string B] 9)) fun e w' => e = .returned (.string X1) ∧ Ext (W.alloc (.cells #[.string (⟨#[102, 105, 114, 115, 116]⟩ : ByteArray), .string B] 9)) w' := fun W => by
    rw [hX1]
    exact ifSo_any X0 fb _ [(⟨#[102, 105, 114, 115, 116]⟩ : ByteArray), B] _ (strs_lit W [(⟨#[102, 105, 114, 115, 116]⟩ : ByteArray), B] 9 (by simp)) (Nat.le_trans z0 (by decide)) (fun i hi => by
      match i, hi with
      | 0, _ => exact (by decide : ((⟨#[102, 105, 114, 115, 116]⟩ : ByteArray) : ByteArray).size ≤ 5000)
      | 1, _ => exact Nat.le_trans sB (by decide)) (by simp) (by simp)
  obtain ⟨X2, hX2⟩ : ∃ x, x = (if (fb && pf) then lineF [X1, (⟨#[112, 101, 114, 105, 111, 100, 105, 99]⟩ : ByteArray)] else X1) := ⟨_, rfl⟩
  have cI2 : ∀ (W : World), Calls Try.prog 102 #[.string X1, .bool (fb && pf), .slice (some ⟨W.heap.size, 0, none⟩) 1 1] (W.alloc (.cells #[.string (⟨#[112, 101, 114, 105, 111, 100, 105, 99]⟩ : ByteArray)] 9)) fun e w' => e = .returned (.string X2) ∧ Ext (W.alloc (.cells #[.string (⟨#[112, 101, 114, 105, 111, 100, 105, 99]⟩ : ByteArray)] 9)) w' := fun W => by
    rw [hX2]
    exact ifSo_any X1 (fb && pf) _ [(⟨#[112, 101, 114, 105, 111, 100, 105, 99]⟩ : ByteArray)] _ (strs_lit W [(⟨#[112, 101, 114, 105, 111, 100, 105, 99]⟩ : ByteArray)] 9 (by simp)) (Nat.le_trans z1 (by decide)) (fun i hi => by
      match i, hi with
      | 0, _ => exact (by decide : ((⟨#[112, 101, 114, 105, 111, 100, 105, 99]⟩ : ByteArray) : ByteArray).size ≤ 5000)) (by simp) (by simp)
  have z2 : X2.size ≤ 900 := by
    rw [hX2]
    have q0 : (⟨#[]⟩ : ByteArray).size = 0 := rfl
    have q1 : (⟨#[32]⟩ : ByteArray).size = 1 := rfl
    have q7 : (⟨#[112, 101, 114, 105, 111, 100, 105, 99]⟩ : ByteArray).size = 8 := rfl
    cases fb <;> cases pf <;> simp [lineF, jn, nthS, spB, List.getD, ByteArray.size_append] <;> omega
  have hln_X3 : ∀ i, i < ([X2, (⟨#[103, 114, 101, 101, 100, 121]⟩ : ByteArray), C, (⟨#[108, 101, 97, 115, 116]⟩ : ByteArray), D] : List ByteArray).length → (nthS [X2, (⟨#[103, 114, 101, 101, 100, 121]⟩ : ByteArray), C, (⟨#[108, 101, 97, 115, 116]⟩ : ByteArray), D] i).size ≤ 5000 := by
    intro i hi
    match i, hi with
    | 0, _ => exact Nat.le_trans z2 (by decide)
    | 1, _ => exact (by decide : ((⟨#[103, 114, 101, 101, 100, 121]⟩ : ByteArray) : ByteArray).size ≤ 5000)
    | 2, _ => exact Nat.le_trans sC (by decide)
    | 3, _ => exact (by decide : ((⟨#[108, 101, 97, 115, 116]⟩ : ByteArray) : ByteArray).size ≤ 5000)
    | 4, _ => exact Nat.le_trans sD (by decide)
  obtain ⟨X3, hX3⟩ : ∃ x, x = lineF [X2, (⟨#[103, 114, 101, 101, 100, 121]⟩ : ByteArray), C, (⟨#[108, 101, 97, 115, 116]⟩ : ByteArray), D] := ⟨_, rfl⟩
  have cL3 : ∀ (W : World), Calls Try.prog 98 #[.slice (some ⟨W.heap.size, 0, none⟩) 5 5] (W.alloc (.cells #[.string X2, .string (⟨#[103, 114, 101, 101, 100, 121]⟩ : ByteArray), .string C, .string (⟨#[108, 101, 97, 115, 116]⟩ : ByteArray), .string D] 9)) fun e w' => e = .returned (.string X3) ∧ Ext (W.alloc (.cells #[.string X2, .string (⟨#[103, 114, 101, 101, 100, 121]⟩ : ByteArray), .string C, .string (⟨#[108, 101, 97, 115, 116]⟩ : ByteArray), .string D] 9)) w' := fun W =>
    (line_any _ _ _ (strs_lit W [X2, (⟨#[103, 114, 101, 101, 100, 121]⟩ : ByteArray), C, (⟨#[108, 101, 97, 115, 116]⟩ : ByteArray), D] 9 (by simp)) hln_X3 (by simp)).mono fun e w' ⟨h1, h2⟩ => ⟨by rw [h1, hX3], by rw [← h2]; exact Ext.refl _⟩
  have Hfin : Hid (tlnF l a = X3) := Lib.hid (by rw [hX3, hX2, hX1, hX0, Hs.out]; exact (tln_line A B C D fb pf).symm)
  clear hX0 hX1 hX2 hX3 hln_X0 hln_X3 z0 z1 z2 sA sB sC sD
  cases fb
  all_goals
    try simp only [Bool.true_and, Bool.false_and] at cI2
    go_enter Try.func19, Try.ntmps19
    go_wp2_with fail
    rw [← Hwb.out]
    refine cT.mono ?_
    rintro e w1 ⟨vT, L, rfl, hI, hL, hE1⟩
    obtain ⟨aT, kT, rfl, -⟩ := hI
    rw [hL]
    clear hL cT
    go_wp2_with (first
      | (go_at_call 100; refine (cA _).mono ?_; rintro e w2 ⟨rfl, hE2⟩; have hE02 := hE1.trans hE2)
      | (go_at_call 98; refine (cL0 _).mono ?_; rintro e w3 ⟨rfl, hE3⟩; have hE03 := hE02.trans (Ext.trans ((Ext.refl _).alloc _) hE3); have kb3 := hb _ hE03)
      | (go_at_call 53; refine (cF _ hE03).mono ?_; rintro e w4 ⟨rfl, hE4⟩; have hE04 := hE03.trans hE4; have kb4 := hb _ hE04)
      | (go_at_call 120; with_reducible refine Calls.mono (cB _ hE04) ?_; rintro e w5 ⟨rfl, hE5⟩; have hE05 := hE04.trans hE5)
      | (go_at_call 102; with_reducible refine Calls.mono (cI1 _) ?_; rintro e w6 ⟨rfl, hE6⟩; have hE06 := hE05.trans (Ext.trans ((Ext.refl _).alloc _) hE6); have kb6 := hb _ hE06)
      | (go_at_call 126; with_reducible refine Calls.mono (cP _ hE06) ?_; rintro e w7 ⟨rfl, hE7⟩; have hE08 := hE06.trans hE7)
      | (go_at_call 102; with_reducible refine Calls.mono (cI2 _) ?_; rintro e w8 ⟨rfl, hE8⟩; first | (have hE09 := hE08.trans (Ext.trans ((Ext.refl _).alloc _) hE8); have kb9 := hb _ hE09) | (have hE09 := hE06.trans (Ext.trans ((Ext.refl _).alloc _) hE8); have kb9 := hb _ hE09))
      | (go_at_call 49; refine (cG _ hE09).mono ?_; rintro e w10 ⟨rfl, hE10⟩; have hE010 := hE09.trans hE10))
    have kb := fun W (hW : Ext w10 W) => hb W (hE010.trans hW)
    have hD := (Ext.refl w10).drew
    first | (go_region_held3 (fun W => Ext w10 W ∧ W.cell? ⟨w.heap.size, 0, none⟩ = some v) (exact ⟨(by repeat (first | assumption | exact Ext.refl _ | (apply And.left; assumption) | apply Ext.drew | apply Ext.alloc)), kb _ (by repeat (first | assumption | exact Ext.refl _ | (apply And.left; assumption) | apply Ext.drew | apply Ext.alloc))⟩) (first | (go_at_call 120; ((with_reducible refine Calls.mono (cC _ (hE010.trans (by repeat (first | assumption | exact Ext.refl _ | (apply And.left; assumption) | apply Ext.drew | apply Ext.alloc)))) ?_); rintro e wH ⟨rfl, hX⟩; have hH := Ext.trans (a := w10) (by repeat (first | assumption | exact Ext.refl _ | (apply And.left; assumption) | apply Ext.drew | apply Ext.alloc)) hX)) | (go_at_call 100; ((with_reducible refine Calls.mono (cD _) ?_); rintro e wH ⟨rfl, hX⟩; have hH := Ext.trans (a := w10) (by repeat (first | assumption | exact Ext.refl _ | (apply And.left; assumption) | apply Ext.drew | apply Ext.alloc)) hX)) | (go_at_call 47; ((with_reducible refine Calls.mono (cM _ (hE010.trans (by repeat (first | assumption | exact Ext.refl _ | (apply And.left; assumption) | apply Ext.drew | apply Ext.alloc)))) ?_); rintro e wH ⟨rfl, hX⟩; have hH := Ext.trans (a := w10) (by repeat (first | assumption | exact Ext.refl _ | (apply And.left; assumption) | apply Ext.drew | apply Ext.alloc)) hX)) | (go_at_call 98; ((with_reducible refine Calls.mono (cL3 _) ?_); rintro e wL ⟨rfl, hX⟩; have hHL := Ext.trans (a := w10) (by repeat (first | assumption | exact Ext.refl _ | (apply And.left; assumption) | apply Ext.drew | apply Ext.alloc)) hX)))) | (fail "the region")
    all_goals
      go_wp2_with fail
      go_ret
      exact ⟨ret_str Hfin.out.symm, hE0.trans (hE010.trans hHL)⟩

theorem sTileLine_any (v : Value) (l : List Int) (a : Int) (w : World) (h : Ints w v l) :
    Calls Try.prog 18 #[.agg #[v], .int .i64 a] w fun e w' => e = .returned (.string (tlnF l a)) ∧ Ext w w' := by
  obtain ⟨wb, hwb⟩ : ∃ wb, wb = w.alloc (.cells #[v] 31) := ⟨_, rfl⟩
  have hE0 := (Ext.refl w).alloc (.cells #[v] 31)
  have hb := box_cell w v 31
  rw [← hwb] at hE0 hb
  have hg : ∀ W, Ext wb W → Ints W v l := fun W hW => h.ext (hE0.trans hW)
  have hE := Ext.refl wb
  have Hsz : Hid (w.heap.size + 1 = wb.heap.size) := Lib.hid (by rw [hwb]; simp [go_sem])
  have Hwb := Lib.hid hwb
  clear hwb h
  have cT := sTilesOf_any v l a wb (hg _ hE)
  have hbx := hb wb hE
  cases ho : isOneB l a
  · have Hs := Lib.hid (tln_no ho)
    rw [ho] at cT
    go_enter Try.func18, Try.ntmps18
    go_wp2_with fail
    rw [← Hwb.out]
    refine cT.mono ?_
    rintro e w1 ⟨vT, L, rfl, hI, -, hE1⟩
    obtain ⟨aT, kT, rfl, -⟩ := hI
    go_wp2_with fail
    go_ret
    exact ⟨ret_str Hs.out.symm, hE0.trans hE1⟩
  have Hs := Lib.hid (tln_yes ho)
  rw [ho] at cT
  have hN := tlN_le l a
  have hM := meetF_bd l a
  have sA := fmtB_size (n := ((tlN l a : Nat) : Int)) (by omega)
  have sB := fsF_size l (ftV l a)
  have sC := fsF_size l (greedyF l a)
  have sD := fmtB_size (n := meetF l a) (by omega)
  have cA := fun W => sFormatInt_any ((tlN l a : Nat) : Int) (by omega) W
  have cB := fun W (hW : Ext wb W) => sFormatSet_any v l (ftV l a) W (hg W hW)
  have cC := fun W (hW : Ext wb W) => sFormatSet_any v l (greedyF l a) W (hg W hW)
  have cD := fun W => sFormatInt_any (meetF l a) (by omega) W
  have cF := fun W (hW : Ext wb W) => sFindTile_any v l a W (hg W hW)
  have cG := fun W (hW : Ext wb W) => sGreedyTranslates_any v l a W (hg W hW)
  have cM := fun W (hW : Ext wb W) => sMeetingBound_any v l a W (hg W hW)
  have cP := fun W (hW : Ext wb W) => sHasPeriodicFactor_any v l a (ftV l a) W (hg W hW)
  obtain ⟨A, hA⟩ : ∃ x, x = fmtB ((tlN l a : Nat) : Int) := ⟨_, rfl⟩
  obtain ⟨B, hB⟩ : ∃ x, x = fsF l (ftV l a) := ⟨_, rfl⟩
  obtain ⟨C, hC⟩ : ∃ x, x = fsF l (greedyF l a) := ⟨_, rfl⟩
  obtain ⟨D, hD⟩ : ∃ x, x = fmtB (meetF l a) := ⟨_, rfl⟩
  obtain ⟨pf, hpf⟩ : ∃ x, x = hpF l a (ftV l a) := ⟨_, rfl⟩
  obtain ⟨fb, hfb⟩ : ∃ x, x = ftB l a := ⟨_, rfl⟩
  rw [← hA] at cA sA Hs
  rw [← hB] at cB sB Hs
  rw [← hC] at cC sC Hs
  rw [← hD] at cD sD Hs
  rw [← hpf] at cP Hs
  rw [← hfb] at cF Hs
  obtain ⟨N, hNd⟩ : ∃ x, x = tlN l a := ⟨_, rfl⟩
  obtain ⟨fv, hfv⟩ : ∃ x, x = ftV l a := ⟨_, rfl⟩
  obtain ⟨gv, hgv⟩ : ∃ x, x = greedyF l a := ⟨_, rfl⟩
  obtain ⟨mv, hmv⟩ : ∃ x, x = meetF l a := ⟨_, rfl⟩
  rw [← hNd] at cT cA hN
  rw [← hfv] at cB cF cP
  rw [← hgv] at cC cG
  rw [← hmv] at cD cM hM
  rw [ho] at cG
  clear hA hB hC hD hpf hfb hNd hfv hgv hmv ho

  have cY := fun W => yes_any pf (⟨#[32, 112, 101, 114, 105, 111, 100, 105, 99]⟩ : ByteArray) W
  have zY : (if pf then (⟨#[32, 112, 101, 114, 105, 111, 100, 105, 99]⟩ : ByteArray) else (⟨#[]⟩ : ByteArray)).size ≤ 20 := by cases pf <;> decide
  obtain ⟨y, hy⟩ : ∃ x, x = (if pf then (⟨#[32, 112, 101, 114, 105, 111, 100, 105, 99]⟩ : ByteArray) else (⟨#[]⟩ : ByteArray)) := ⟨_, rfl⟩
  rw [← hy] at cY zY
  have Hy := Lib.hid hy
  clear hy
  cases fb
  all_goals
    go_enter Try.func18, Try.ntmps18
    go_wp2_with fail
    rw [← Hwb.out]
    refine cT.mono ?_
    rintro e w1 ⟨vT, L, rfl, hI, hL, hE1⟩
    obtain ⟨aT, kT, rfl, -⟩ := hI
    rw [hL]
    clear hL cT
    go_wp2_with (go_at_call 93; refine (cA _).mono ?_; rintro e w2 ⟨rfl, hE2⟩; have hE02 := hE1.trans hE2; have kb2 := hb _ hE02)
    refine (cF _ hE02).mono ?_
    rintro e w4 ⟨rfl, hE4⟩
    have hE04 := hE02.trans hE4
    have kb4 := hb _ hE04
    have kc4 := fun U => hb _ (hE04.trans (lat_ext w4 U))
    replace hE := Ext.refl w4
    go_wp2_with fail
  · refine (cG _ hE04).mono ?_
    rintro e w5 ⟨rfl, hE5⟩
    have hE05 := hE04.trans hE5
    have kc5 := fun U => hb _ (hE05.trans (lat_ext w5 U))
    replace hE := Ext.refl w5
    go_wp2_with fail
    (refine wp_region_lat (w5) (by kernel_rfl) (by kernel_rfl) hE ?_); (repeat (go_big_quiet_step (first | (go_at_call 112; with_reducible exact Calls.lat (cC _ (hE05.trans (lat_ext w5 _)))) | (go_at_call 93; with_reducible exact Calls.lat (cD _)) | (go_at_call 48; with_reducible exact Calls.lat (cM _ (hE05.trans (lat_ext w5 _))))))); (refine wpQuiet_nil ?_); (intro W hE'); (replace hE := lat_of hE'); (clear hE')
    go_wp2_with fail
    go_ret
    exact ⟨ret_str (by rw [Hs.out]; rfl), hE0.trans (hE05.trans hE)⟩
  · (refine wp_region_lat (w4) (by kernel_rfl) (by kernel_rfl) hE ?_); (repeat (go_big_quiet_step (first | (go_at_call 112; with_reducible exact Calls.lat (cB _ (hE04.trans (lat_ext w4 _)))) | (go_at_call 124; with_reducible exact Calls.lat (cP _ (hE04.trans (lat_ext w4 _)))) | (go_at_call 123; with_reducible exact Calls.lat_same (cY _))))); (refine wpQuiet_nil ?_); (intro W hE'); (replace hE := lat_of hE'); (clear hE')
    rename World => w45
    have hE04b := hE04.trans hE
    have kb5 := hb _ hE04b
    go_wp2_with fail
    refine (cG _ hE04b).mono ?_
    rintro e w5 ⟨rfl, hE5⟩
    have hE05 := hE04b.trans hE5
    have kc5 := fun U => hb _ (hE05.trans (lat_ext w5 U))
    replace hE := Ext.refl w5
    go_wp2_with fail
    (refine wp_region_lat (w5) (by kernel_rfl) (by kernel_rfl) hE ?_); (repeat (go_big_quiet_step (first | (go_at_call 112; with_reducible exact Calls.lat (cC _ (hE05.trans (lat_ext w5 _)))) | (go_at_call 93; with_reducible exact Calls.lat (cD _)) | (go_at_call 48; with_reducible exact Calls.lat (cM _ (hE05.trans (lat_ext w5 _))))))); (refine wpQuiet_nil ?_); (intro W hE'); (replace hE := lat_of hE'); (clear hE')
    go_wp2_with fail
    go_ret
    exact ⟨ret_str (by rw [Hs.out, Hy.out]; rfl), hE0.trans (hE05.trans hE)⟩
end Go.Zz
