/- EquationLine of the program and of the reference. -/
import Derived.Test.YtgjomoedgmofbaaGr3
import Derived.Test.YtgjomoedgmofbaaGr4
import Derived.Test.YtgjomoedgmofbaaGr13
import Derived.Test.YtgjomoedgmofbaaGr14
import Derived.Test.YtgjomoedgmofbaaGr15
namespace Go.Zz
open Go.RowKit Go.Proofs
set_option maxHeartbeats 2000000
set_option maxRecDepth 8000

theorem radN_bd (c : List Int) : -1 ≤ radN c ∧ radN c ≤ 9 := by
  unfold radN
  split
  · split
    · rename_i n hn
      have := List.mem_of_find?_eq_some hn
      rw [List.mem_range] at this
      omega
    · omega
  · omega
theorem zcL_in (c : List Int) : (∀ i, i < (castL (zcL c)).length → -9 ≤ nth (castL (zcL c)) i ∧ nth (castL (zcL c)) i < 1000000000000) ∧ (castL (zcL c)).length ≤ 40 := by
  unfold zcL
  split
  · rename_i m hm
    refine ⟨fun i hi => ?_, by rw [castL_len]; have := elems_len m; omega⟩
    have := elems_in m i hi
    omega
  · exact ⟨fun i hi => by simp [castL] at hi, by simp [castL]⟩
def eqlF (c : List Int) : ByteArray :=
  if eqB c then
    (fun (A B C D : ByteArray) (zb n3 : Bool) => (if n3 then (((if zb then ((((((⟨#[101, 113, 117, 97, 116, 105, 111, 110, 32]⟩ : ByteArray) ++ A) ++ (⟨#[32, 115, 111, 108, 117, 116, 105, 111, 110, 115, 32]⟩ : ByteArray)) ++ B) ++ (⟨#[32, 114, 101, 103, 117, 108, 97, 114, 32]⟩ : ByteArray)) ++ C) else ((((⟨#[101, 113, 117, 97, 116, 105, 111, 110, 32]⟩ : ByteArray) ++ A) ++ (⟨#[32, 115, 111, 108, 117, 116, 105, 111, 110, 115, 32]⟩ : ByteArray)) ++ B)) ++ (⟨#[32, 110, 117, 109, 98, 101, 114, 32]⟩ : ByteArray)) ++ D) else (if zb then ((((((⟨#[101, 113, 117, 97, 116, 105, 111, 110, 32]⟩ : ByteArray) ++ A) ++ (⟨#[32, 115, 111, 108, 117, 116, 105, 111, 110, 115, 32]⟩ : ByteArray)) ++ B) ++ (⟨#[32, 114, 101, 103, 117, 108, 97, 114, 32]⟩ : ByteArray)) ++ C) else ((((⟨#[101, 113, 117, 97, 116, 105, 111, 110, 32]⟩ : ByteArray) ++ A) ++ (⟨#[32, 115, 111, 108, 117, 116, 105, 111, 110, 115, 32]⟩ : ByteArray)) ++ B)))) (numF c) (fmtB (cntF c 4 [] c.length [] : Nat)) (numF (castL (zcL c))) (fmtB (radN c)) (zcB c) (decide (c.length ≤ 3))
  else ⟨#[]⟩
theorem eql_no {c : List Int} (h : eqB c = false) : eqlF c = ⟨#[]⟩ := by unfold eqlF; rw [h]; rfl
theorem eql_yes {c : List Int} (h : eqB c = true) : eqlF c = (fun (A B C D : ByteArray) (zb n3 : Bool) => (if n3 then (((if zb then ((((((⟨#[101, 113, 117, 97, 116, 105, 111, 110, 32]⟩ : ByteArray) ++ A) ++ (⟨#[32, 115, 111, 108, 117, 116, 105, 111, 110, 115, 32]⟩ : ByteArray)) ++ B) ++ (⟨#[32, 114, 101, 103, 117, 108, 97, 114, 32]⟩ : ByteArray)) ++ C) else ((((⟨#[101, 113, 117, 97, 116, 105, 111, 110, 32]⟩ : ByteArray) ++ A) ++ (⟨#[32, 115, 111, 108, 117, 116, 105, 111, 110, 115, 32]⟩ : ByteArray)) ++ B)) ++ (⟨#[32, 110, 117, 109, 98, 101, 114, 32]⟩ : ByteArray)) ++ D) else (if zb then ((((((⟨#[101, 113, 117, 97, 116, 105, 111, 110, 32]⟩ : ByteArray) ++ A) ++ (⟨#[32, 115, 111, 108, 117, 116, 105, 111, 110, 115, 32]⟩ : ByteArray)) ++ B) ++ (⟨#[32, 114, 101, 103, 117, 108, 97, 114, 32]⟩ : ByteArray)) ++ C) else ((((⟨#[101, 113, 117, 97, 116, 105, 111, 110, 32]⟩ : ByteArray) ++ A) ++ (⟨#[32, 115, 111, 108, 117, 116, 105, 111, 110, 115, 32]⟩ : ByteArray)) ++ B)))) (numF c) (fmtB (cntF c 4 [] c.length [] : Nat)) (numF (castL (zcL c))) (fmtB (radN c)) (zcB c) (decide (c.length ≤ 3)) := by
  unfold eqlF; rw [if_pos h]
theorem eql_line (A B C D : ByteArray) (zb n3 : Bool) : (if n3 then lineF [(if zb then lineF [lineF [(⟨#[101, 113, 117, 97, 116, 105, 111, 110]⟩ : ByteArray), A, (⟨#[115, 111, 108, 117, 116, 105, 111, 110, 115]⟩ : ByteArray), B], (⟨#[114, 101, 103, 117, 108, 97, 114]⟩ : ByteArray), C] else lineF [(⟨#[101, 113, 117, 97, 116, 105, 111, 110]⟩ : ByteArray), A, (⟨#[115, 111, 108, 117, 116, 105, 111, 110, 115]⟩ : ByteArray), B]), (⟨#[110, 117, 109, 98, 101, 114]⟩ : ByteArray), D] else (if zb then lineF [lineF [(⟨#[101, 113, 117, 97, 116, 105, 111, 110]⟩ : ByteArray), A, (⟨#[115, 111, 108, 117, 116, 105, 111, 110, 115]⟩ : ByteArray), B], (⟨#[114, 101, 103, 117, 108, 97, 114]⟩ : ByteArray), C] else lineF [(⟨#[101, 113, 117, 97, 116, 105, 111, 110]⟩ : ByteArray), A, (⟨#[115, 111, 108, 117, 116, 105, 111, 110, 115]⟩ : ByteArray), B])) = (if n3 then (((if zb then ((((((⟨#[101, 113, 117, 97, 116, 105, 111, 110, 32]⟩ : ByteArray) ++ A) ++ (⟨#[32, 115, 111, 108, 117, 116, 105, 111, 110, 115, 32]⟩ : ByteArray)) ++ B) ++ (⟨#[32, 114, 101, 103, 117, 108, 97, 114, 32]⟩ : ByteArray)) ++ C) else ((((⟨#[101, 113, 117, 97, 116, 105, 111, 110, 32]⟩ : ByteArray) ++ A) ++ (⟨#[32, 115, 111, 108, 117, 116, 105, 111, 110, 115, 32]⟩ : ByteArray)) ++ B)) ++ (⟨#[32, 110, 117, 109, 98, 101, 114, 32]⟩ : ByteArray)) ++ D) else (if zb then ((((((⟨#[101, 113, 117, 97, 116, 105, 111, 110, 32]⟩ : ByteArray) ++ A) ++ (⟨#[32, 115, 111, 108, 117, 116, 105, 111, 110, 115, 32]⟩ : ByteArray)) ++ B) ++ (⟨#[32, 114, 101, 103, 117, 108, 97, 114, 32]⟩ : ByteArray)) ++ C) else ((((⟨#[101, 113, 117, 97, 116, 105, 111, 110, 32]⟩ : ByteArray) ++ A) ++ (⟨#[32, 115, 111, 108, 117, 116, 105, 111, 110, 115, 32]⟩ : ByteArray)) ++ B))) := by
  apply bytes_ext
  cases zb <;> cases n3 <;> simp [lineF, jn, nthS, spB, List.getD]

theorem EquationLine_any (u : Value) (c : List Int) (w : World) (hu : Ints w u c) :
    Calls Try.prog 33 #[u] w fun e w' => e = .returned (.string (eqlF c)) ∧ Ext w w' := by
  have cE := fun W (hW : Ext w W) => isEquation_any u c W (hu.ext hW)
  have HU := Lib.hid hu
  cases he : eqB c
  · have Hs := Lib.hid (eql_no he)
    rw [he] at cE
    go_enter Try.func33, Try.ntmps33
    go_wp2_with fail
    refine (cE _ (Ext.refl _)).mono ?_
    rintro e w1 ⟨rfl, hE1⟩
    go_wp2_with fail
    go_ret
    exact ⟨ret_str Hs.out.symm, hE1⟩
  rw [he] at cE
  have h24 := eqB_yes he
  obtain ⟨h2l, h4l, hcv⟩ := h24
  have hcv2 : ∀ i, i < c.length → -9 ≤ nth c i ∧ nth c i < 1000000000000 := fun i hi => by have := hcv i hi; omega
  have hcN : cntF c 4 [] c.length [] ≤ 256 := by
    have h1 := cntF_le c 4 [] c.length []
    have h3 : 4 ^ c.length ≤ 4 ^ 4 := Nat.pow_le_pow_right (by omega) h4l
    omega
  have hrd := radN_bd c
  have hzl := zcL_in c
  have Hs := Lib.hid (eql_yes he)
  obtain ⟨ao, cc, rfl, -⟩ := hu
  have sA := numF9_size hcv2 (by omega)
  have sB := fmtB_size (n := ((cntF c 4 [] c.length [] : Nat) : Int)) (by omega)
  have sC := numF9_size hzl.1 hzl.2
  have sD := fmtB_size (n := radN c) (by omega)
  have cS := fun W (hW : Ext w W) => SolutionsIn_yes (.slice ao c.length cc) c 4 W (HU.out.ext hW) he (by omega)
  have cA := fun W (hW : Ext w W) => numbers9_any (.slice ao c.length cc) c W (HU.out.ext hW) hcv2 (by omega)
  have cB := fun W => FormatInt_any ((cntF c 4 [] c.length [] : Nat) : Int) (by omega) W
  have cC := fun v W (hv : Ints W v (castL (zcL c))) => numbers9_any v (castL (zcL c)) W hv hzl.1 (by omega)
  have cD := fun W => FormatInt_any (radN c) (by omega) W
  have cZ := fun W (hW : Ext w W) => ZeroColumns_any (.slice ao c.length cc) c W (HU.out.ext hW)
  have cR := fun W (hW : Ext w W) => RadoNumber_any (.slice ao c.length cc) c W (HU.out.ext hW)
  obtain ⟨n3, hn3⟩ : ∃ x, x = decide (c.length ≤ 3) := ⟨_, rfl⟩
  have h3t : n3 = true → (c.length : Int) ≤ 3 := fun e => by rw [e] at hn3; have := of_decide_eq_true hn3.symm; omega
  have h3f : n3 = false → ¬ (c.length : Int) ≤ 3 := fun e => by rw [e] at hn3; have := of_decide_eq_false hn3.symm; omega
  rw [← hn3] at Hs
  obtain ⟨A, hA⟩ : ∃ x, x = numF c := ⟨_, rfl⟩
  obtain ⟨B, hB⟩ : ∃ x, x = fmtB ((cntF c 4 [] c.length [] : Nat) : Int) := ⟨_, rfl⟩
  obtain ⟨C, hC⟩ : ∃ x, x = numF (castL (zcL c)) := ⟨_, rfl⟩
  obtain ⟨D, hD⟩ : ∃ x, x = fmtB (radN c) := ⟨_, rfl⟩
  obtain ⟨zb, hzb⟩ : ∃ x, x = zcB c := ⟨_, rfl⟩
  rw [← hA] at cA sA Hs
  rw [← hB] at cB sB Hs
  simp only [← hC] at cC sC Hs
  rw [← hD] at cD sD Hs
  simp only [← hzb] at cZ Hs
  obtain ⟨N, hNd⟩ : ∃ x, x = cntF c 4 [] c.length [] := ⟨_, rfl⟩
  obtain ⟨rv, hrv⟩ : ∃ x, x = radN c := ⟨_, rfl⟩
  simp only [← hNd, show ((4 : Nat) : Int) = 4 from rfl] at cS cB hcN
  simp only [← hrv] at cR cD hrd
  clear hA hB hC hD hzb hNd hrv he hcv hcv2 hzl hn3

  have hln_X0 : ∀ i, i < ([(⟨#[101, 113, 117, 97, 116, 105, 111, 110]⟩ : ByteArray), A, (⟨#[115, 111, 108, 117, 116, 105, 111, 110, 115]⟩ : ByteArray), B] : List ByteArray).length → (nthS [(⟨#[101, 113, 117, 97, 116, 105, 111, 110]⟩ : ByteArray), A, (⟨#[115, 111, 108, 117, 116, 105, 111, 110, 115]⟩ : ByteArray), B] i).size ≤ 5000 := by
    intro i hi
    match i, hi with
    | 0, _ => exact (by decide : ((⟨#[101, 113, 117, 97, 116, 105, 111, 110]⟩ : ByteArray) : ByteArray).size ≤ 5000)
    | 1, _ => exact Nat.le_trans sA (by decide)
    | 2, _ => exact (by decide : ((⟨#[115, 111, 108, 117, 116, 105, 111, 110, 115]⟩ : ByteArray) : ByteArray).size ≤ 5000)
    | 3, _ => exact Nat.le_trans sB (by decide)
  have z0 : (lineF [(⟨#[101, 113, 117, 97, 116, 105, 111, 110]⟩ : ByteArray), A, (⟨#[115, 111, 108, 117, 116, 105, 111, 110, 115]⟩ : ByteArray), B]).size ≤ 700 := by
    simp only [lineF, jn, nthS, spB, List.getD, List.length_cons, List.length_nil, ByteArray.size_append]
    simp [ByteArray.size_append]
    have q0 : (⟨#[]⟩ : ByteArray).size = 0 := rfl
    have q1 : (⟨#[32]⟩ : ByteArray).size = 1 := rfl
    have r0 : (⟨#[101, 113, 117, 97, 116, 105, 111, 110]⟩ : ByteArray).size = 8 := rfl
    have r1 : (⟨#[115, 111, 108, 117, 116, 105, 111, 110, 115]⟩ : ByteArray).size = 9 := rfl
    have r2 := sA
    have r3 := sB
    omega
  obtain ⟨X0, hX0⟩ : ∃ x, x = lineF [(⟨#[101, 113, 117, 97, 116, 105, 111, 110]⟩ : ByteArray), A, (⟨#[115, 111, 108, 117, 116, 105, 111, 110, 115]⟩ : ByteArray), B] := ⟨_, rfl⟩
  rw [← hX0] at z0
  have cL0 : ∀ (W : World), Calls Try.prog 131 #[.slice (some ⟨W.heap.size, 0, none⟩) 4 4] (W.alloc (.cells #[.string (⟨#[101, 113, 117, 97, 116, 105, 111, 110]⟩ : ByteArray), .string A, .string (⟨#[115, 111, 108, 117, 116, 105, 111, 110, 115]⟩ : ByteArray), .string B] 9)) fun e w' => e = .returned (.string X0) ∧ Ext (W.alloc (.cells #[.string (⟨#[101, 113, 117, 97, 116, 105, 111, 110]⟩ : ByteArray), .string A, .string (⟨#[115, 111, 108, 117, 116, 105, 111, 110, 115]⟩ : ByteArray), .string B] 9)) w' := fun W =>
    (line_any _ _ _ (strs_lit W [(⟨#[101, 113, 117, 97, 116, 105, 111, 110]⟩ : ByteArray), A, (⟨#[115, 111, 108, 117, 116, 105, 111, 110, 115]⟩ : ByteArray), B] 9 (by simp)) hln_X0 (by simp)).mono fun e w' ⟨h1, h2⟩ => ⟨by rw [h1, hX0], by rw [← h2]; exact Ext.refl _⟩
  have z1 : (if zb then lineF [X0, (⟨#[114, 101, 103, 117, 108, 97, 114]⟩ : ByteArray), C] else X0).size ≤ 1400 := by
    cases zb
    · exact Nat.le_trans z0 (by decide)
    · have q0 : (⟨#[]⟩ : ByteArray).size = 0 := rfl
      have q1 : (⟨#[32]⟩ : ByteArray).size = 1 := rfl
      have rX := z0
      have r0 : (⟨#[114, 101, 103, 117, 108, 97, 114]⟩ : ByteArray).size = 7 := rfl
      have r1 := sC
      simp [lineF, jn, nthS, spB, List.getD, ByteArray.size_append]; omega
  obtain ⟨X1, hX1⟩ : ∃ x, x = (if zb then lineF [X0, (⟨#[114, 101, 103, 117, 108, 97, 114]⟩ : ByteArray), C] else X0) := ⟨_, rfl⟩
  rw [← hX1] at z1
  have cI1 : ∀ (W : World), Calls Try.prog 135 #[.string X0, .bool zb, .slice (some ⟨W.heap.size, 0, none⟩) 2 2] (W.alloc (.cells #[.string (⟨#[114, 101, 103, 117, 108, 97, 114]⟩ : ByteArray), .string C] 9)) fun e w' => e = .returned (.string X1) ∧ Ext (W.alloc (.cells #[.string (⟨#[114, 101, 103, 117, 108, 97, 114]⟩ : ByteArray), .string C] 9)) w' := fun W => by
    rw [hX1]
    exact ifSo_any X0 zb _ [(⟨#[114, 101, 103, 117, 108, 97, 114]⟩ : ByteArray), C] _ (strs_lit W [(⟨#[114, 101, 103, 117, 108, 97, 114]⟩ : ByteArray), C] 9 (by simp)) (Nat.le_trans z0 (by decide)) (fun i hi => by
      match i, hi with
      | 0, _ => exact (by decide : ((⟨#[114, 101, 103, 117, 108, 97, 114]⟩ : ByteArray) : ByteArray).size ≤ 5000)
      | 1, _ => exact Nat.le_trans sC (by decide)) (by simp) (by simp)
  obtain ⟨X2, hX2⟩ : ∃ x, x = (if n3 then lineF [X1, (⟨#[110, 117, 109, 98, 101, 114]⟩ : ByteArray), D] else X1) := ⟨_, rfl⟩
  have cI2 : ∀ (W : World), Calls Try.prog 135 #[.string X1, .bool n3, .slice (some ⟨W.heap.size, 0, none⟩) 2 2] (W.alloc (.cells #[.string (⟨#[110, 117, 109, 98, 101, 114]⟩ : ByteArray), .string D] 9)) fun e w' => e = .returned (.string X2) ∧ Ext (W.alloc (.cells #[.string (⟨#[110, 117, 109, 98, 101, 114]⟩ : ByteArray), .string D] 9)) w' := fun W => by
    rw [hX2]
    exact ifSo_any X1 n3 _ [(⟨#[110, 117, 109, 98, 101, 114]⟩ : ByteArray), D] _ (strs_lit W [(⟨#[110, 117, 109, 98, 101, 114]⟩ : ByteArray), D] 9 (by simp)) (Nat.le_trans z1 (by decide)) (fun i hi => by
      match i, hi with
      | 0, _ => exact (by decide : ((⟨#[110, 117, 109, 98, 101, 114]⟩ : ByteArray) : ByteArray).size ≤ 5000)
      | 1, _ => exact Nat.le_trans sD (by decide)) (by simp) (by simp)
  have Hfin : Hid (eqlF c = X2) := Lib.hid (by rw [hX2, hX1, hX0, Hs.out]; exact (eql_line A B C D zb n3).symm)
  clear hX0 hX1 hX2 hln_X0 z0 z1 sA sB sC sD Hs
  cases n3
  · have h3I := h3f rfl
    have Hd : Hid (decide ((c.length : Int) ≤ 3) = false) := Lib.hid (by simpa using h3I)
    clear h3t h3f
    go_enter Try.func33, Try.ntmps33
    go_wp2_with fail
    refine (cE _ (Ext.refl _)).mono ?_
    rintro e w1 ⟨rfl, hE1⟩
    go_wp2_with (first
      | (go_at_call 130; refine (cS _ hE1).mono ?_; rintro e w2 ⟨vS, rfl, hOS, hE2'⟩; have hE2 := hE1.trans hE2'; obtain ⟨aS, kS, rfl, -⟩ := hOS.shape)
      | (go_at_call 132; with_reducible refine Calls.mono (cA _ hE2) ?_; rintro e w3 ⟨rfl, hE3'⟩; have hE3 := hE2.trans hE3')
      | (go_at_call 133; with_reducible refine Calls.mono (cB _) ?_; rintro e w4 ⟨rfl, hE4'⟩; have hE4 := hE3.trans hE4')
      | (go_at_call 131; refine (cL0 _).mono ?_; rintro e w5 ⟨rfl, hE5'⟩; have hE5 := hE4.trans (Ext.trans ((Ext.refl _).alloc _) hE5'))
      | (go_at_call 134; refine (cZ _ hE5).mono ?_; rintro e w6 ⟨vZ, rfl, hOZ, hE6'⟩; have hE6 := hE5.trans hE6')
      | (go_at_call 132; with_reducible refine Calls.mono (cC _ _ hOZ.ints) ?_; rintro e w7 ⟨rfl, hE7'⟩; have hE7 := hE6.trans hE7')
      | (go_at_call 135; with_reducible refine Calls.mono (cI1 _) ?_; rintro e w8 ⟨rfl, hE8'⟩; have hE8 := hE7.trans (Ext.trans ((Ext.refl _).alloc _) hE8'))
      | (go_at_call 136; refine (cR _ hE8).mono ?_; rintro e w9 ⟨rfl, hE9'⟩; have hE9 := hE8.trans hE9')
      | (go_at_call 133; with_reducible refine Calls.mono (cD _) ?_; rintro e w10 ⟨rfl, hE10'⟩; have hE10 := hE9.trans hE10')
      | (go_at_call 135; rw [Hd.out]; with_reducible refine Calls.mono (cI2 _) ?_; rintro e w11 ⟨rfl, hE11'⟩; have hE11 := hE10.trans (Ext.trans ((Ext.refl _).alloc _) hE11')))
    go_ret
    exact ⟨ret_str Hfin.out.symm, hE11⟩
  · have h3I := h3t rfl
    clear h3t h3f
    go_enter Try.func33, Try.ntmps33
    go_wp2_with fail
    refine (cE _ (Ext.refl _)).mono ?_
    rintro e w1 ⟨rfl, hE1⟩
    go_wp2_with (first
      | (go_at_call 130; refine (cS _ hE1).mono ?_; rintro e w2 ⟨vS, rfl, hOS, hE2'⟩; have hE2 := hE1.trans hE2'; obtain ⟨aS, kS, rfl, -⟩ := hOS.shape)
      | (go_at_call 132; with_reducible refine Calls.mono (cA _ hE2) ?_; rintro e w3 ⟨rfl, hE3'⟩; have hE3 := hE2.trans hE3')
      | (go_at_call 133; with_reducible refine Calls.mono (cB _) ?_; rintro e w4 ⟨rfl, hE4'⟩; have hE4 := hE3.trans hE4')
      | (go_at_call 131; refine (cL0 _).mono ?_; rintro e w5 ⟨rfl, hE5'⟩; have hE5 := hE4.trans (Ext.trans ((Ext.refl _).alloc _) hE5'))
      | (go_at_call 134; refine (cZ _ hE5).mono ?_; rintro e w6 ⟨vZ, rfl, hOZ, hE6'⟩; have hE6 := hE5.trans hE6')
      | (go_at_call 132; with_reducible refine Calls.mono (cC _ _ hOZ.ints) ?_; rintro e w7 ⟨rfl, hE7'⟩; have hE7 := hE6.trans hE7')
      | (go_at_call 135; with_reducible refine Calls.mono (cI1 _) ?_; rintro e w8 ⟨rfl, hE8'⟩; have hE8 := hE7.trans (Ext.trans ((Ext.refl _).alloc _) hE8'))
      | (go_at_call 136; refine (cR _ hE8).mono ?_; rintro e w9 ⟨rfl, hE9'⟩; have hE9 := hE8.trans hE9')
      | (go_at_call 133; with_reducible refine Calls.mono (cD _) ?_; rintro e w10 ⟨rfl, hE10'⟩; have hE10 := hE9.trans hE10')
      | (go_at_call 135; with_reducible refine Calls.mono (cI2 _) ?_; rintro e w11 ⟨rfl, hE11'⟩; have hE11 := hE10.trans (Ext.trans ((Ext.refl _).alloc _) hE11')))
    go_ret
    exact ⟨ret_str Hfin.out.symm, hE11⟩
theorem sEquationLine_any (u : Value) (c : List Int) (w : World) (hu : Ints w u c) :
    Calls Try.prog 31 #[u] w fun e w' => e = .returned (.string (eqlF c)) ∧ Ext w w' := by
  have cE := fun W (hW : Ext w W) => l25Fine_any u c W (hu.ext hW)
  have HU := Lib.hid hu
  cases he : eqB c
  · have Hs := Lib.hid (eql_no he)
    rw [he] at cE
    go_enter Try.func31, Try.ntmps31
    go_wp2_with fail
    refine (cE _ (Ext.refl _)).mono ?_
    rintro e w1 ⟨rfl, hE1⟩
    go_wp2_with fail
    go_ret
    exact ⟨ret_str Hs.out.symm, hE1⟩
  rw [he] at cE
  have h24 := eqB_yes he
  obtain ⟨h2l, h4l, hcv⟩ := h24
  have hcv2 : ∀ i, i < c.length → -9 ≤ nth c i ∧ nth c i < 1000000000000 := fun i hi => by have := hcv i hi; omega
  have hcN : cntF c 4 [] c.length [] ≤ 256 := by
    have h1 := cntF_le c 4 [] c.length []
    have h3 : 4 ^ c.length ≤ 4 ^ 4 := Nat.pow_le_pow_right (by omega) h4l
    omega
  have hrd := radN_bd c
  have hzl := zcL_in c
  have Hs := Lib.hid (eql_yes he)
  obtain ⟨ao, cc, rfl, -⟩ := hu
  have sA := numF9_size hcv2 (by omega)
  have sB := fmtB_size (n := ((cntF c 4 [] c.length [] : Nat) : Int)) (by omega)
  have sC := numF9_size hzl.1 hzl.2
  have sD := fmtB_size (n := radN c) (by omega)
  have cS := fun W (hW : Ext w W) => sSolutionsIn_yes (.slice ao c.length cc) c 4 W (HU.out.ext hW) he (by omega)
  have cA := fun W (hW : Ext w W) => sNumbers9_any (.slice ao c.length cc) c W (HU.out.ext hW) hcv2 (by omega)
  have cB := fun W => sFormatInt_any ((cntF c 4 [] c.length [] : Nat) : Int) (by omega) W
  have cC := fun v W (hv : Ints W v (castL (zcL c))) => sNumbers9_any v (castL (zcL c)) W hv hzl.1 (by omega)
  have cD := fun W => sFormatInt_any (radN c) (by omega) W
  have cZ := fun W (hW : Ext w W) => sZeroColumns_any (.slice ao c.length cc) c W (HU.out.ext hW)
  have cR := fun W (hW : Ext w W) => sRadoNumber_any (.slice ao c.length cc) c W (HU.out.ext hW)
  obtain ⟨n3, hn3⟩ : ∃ x, x = decide (c.length ≤ 3) := ⟨_, rfl⟩
  have h3t : n3 = true → (c.length : Int) ≤ 3 := fun e => by rw [e] at hn3; have := of_decide_eq_true hn3.symm; omega
  have h3f : n3 = false → ¬ (c.length : Int) ≤ 3 := fun e => by rw [e] at hn3; have := of_decide_eq_false hn3.symm; omega
  rw [← hn3] at Hs
  obtain ⟨A, hA⟩ : ∃ x, x = numF c := ⟨_, rfl⟩
  obtain ⟨B, hB⟩ : ∃ x, x = fmtB ((cntF c 4 [] c.length [] : Nat) : Int) := ⟨_, rfl⟩
  obtain ⟨C, hC⟩ : ∃ x, x = numF (castL (zcL c)) := ⟨_, rfl⟩
  obtain ⟨D, hD⟩ : ∃ x, x = fmtB (radN c) := ⟨_, rfl⟩
  obtain ⟨zb, hzb⟩ : ∃ x, x = zcB c := ⟨_, rfl⟩
  rw [← hA] at cA sA Hs
  rw [← hB] at cB sB Hs
  simp only [← hC] at cC sC Hs
  rw [← hD] at cD sD Hs
  simp only [← hzb] at cZ Hs
  obtain ⟨N, hNd⟩ : ∃ x, x = cntF c 4 [] c.length [] := ⟨_, rfl⟩
  obtain ⟨rv, hrv⟩ : ∃ x, x = radN c := ⟨_, rfl⟩
  simp only [← hNd, show ((4 : Nat) : Int) = 4 from rfl] at cS cB hcN
  simp only [← hrv] at cR cD hrd
  clear hA hB hC hD hzb hNd hrv he hcv hcv2 hzl hn3

  cases zb
  all_goals cases n3
  · have h3I := h3f rfl
    clear h3t h3f
    go_enter Try.func31, Try.ntmps31
    go_wp2_with fail
    refine (cE _ (Ext.refl _)).mono ?_
    rintro e w1 ⟨rfl, hE1⟩
    go_wp2_with (first
      | (go_at_call 124; refine (cS _ hE1).mono ?_; rintro e w2 ⟨vS, rfl, hOS, hE2'⟩; have hE2 := hE1.trans hE2'; obtain ⟨aS, kS, rfl, -⟩ := hOS.shape)
      | (go_at_call 125; with_reducible refine Calls.mono (cA _ hE2) ?_; rintro e w3 ⟨rfl, hE3'⟩; have hE3 := hE2.trans hE3')
      | (go_at_call 126; with_reducible refine Calls.mono (cB _) ?_; rintro e w4 ⟨rfl, hE4'⟩; have hE4 := hE3.trans hE4')
      | (go_at_call 127; refine (cZ _ hE4).mono ?_; rintro e w6 ⟨vZ, rfl, hOZ, hE6'⟩; have hE6 := hE4.trans hE6'; have hE7 := hE6)
      | (go_at_call 125; with_reducible refine Calls.mono (cC _ _ hOZ.ints) ?_; rintro e w7 ⟨rfl, hE7'⟩; have hE7 := hE6.trans hE7')
      | (go_at_call 128; refine (cR _ hE7).mono ?_; rintro e w9 ⟨rfl, hE9'⟩; have hE9 := hE7.trans hE9')
      | (go_at_call 126; with_reducible refine Calls.mono (cD _) ?_; rintro e w10 ⟨rfl, hE10'⟩; have hE10 := hE9.trans hE10'))
    go_ret
    exact ⟨ret_str (by rw [Hs.out]; rfl), hE7⟩
  · have h3I := h3t rfl
    clear h3t h3f
    go_enter Try.func31, Try.ntmps31
    go_wp2_with fail
    refine (cE _ (Ext.refl _)).mono ?_
    rintro e w1 ⟨rfl, hE1⟩
    go_wp2_with (first
      | (go_at_call 124; refine (cS _ hE1).mono ?_; rintro e w2 ⟨vS, rfl, hOS, hE2'⟩; have hE2 := hE1.trans hE2'; obtain ⟨aS, kS, rfl, -⟩ := hOS.shape)
      | (go_at_call 125; with_reducible refine Calls.mono (cA _ hE2) ?_; rintro e w3 ⟨rfl, hE3'⟩; have hE3 := hE2.trans hE3')
      | (go_at_call 126; with_reducible refine Calls.mono (cB _) ?_; rintro e w4 ⟨rfl, hE4'⟩; have hE4 := hE3.trans hE4')
      | (go_at_call 127; refine (cZ _ hE4).mono ?_; rintro e w6 ⟨vZ, rfl, hOZ, hE6'⟩; have hE6 := hE4.trans hE6'; have hE7 := hE6)
      | (go_at_call 125; with_reducible refine Calls.mono (cC _ _ hOZ.ints) ?_; rintro e w7 ⟨rfl, hE7'⟩; have hE7 := hE6.trans hE7')
      | (go_at_call 128; refine (cR _ hE7).mono ?_; rintro e w9 ⟨rfl, hE9'⟩; have hE9 := hE7.trans hE9')
      | (go_at_call 126; with_reducible refine Calls.mono (cD _) ?_; rintro e w10 ⟨rfl, hE10'⟩; have hE10 := hE9.trans hE10'))
    go_ret
    exact ⟨ret_str (by rw [Hs.out]; rfl), hE10⟩
  · have h3I := h3f rfl
    clear h3t h3f
    go_enter Try.func31, Try.ntmps31
    go_wp2_with fail
    refine (cE _ (Ext.refl _)).mono ?_
    rintro e w1 ⟨rfl, hE1⟩
    go_wp2_with (first
      | (go_at_call 124; refine (cS _ hE1).mono ?_; rintro e w2 ⟨vS, rfl, hOS, hE2'⟩; have hE2 := hE1.trans hE2'; obtain ⟨aS, kS, rfl, -⟩ := hOS.shape)
      | (go_at_call 125; with_reducible refine Calls.mono (cA _ hE2) ?_; rintro e w3 ⟨rfl, hE3'⟩; have hE3 := hE2.trans hE3')
      | (go_at_call 126; with_reducible refine Calls.mono (cB _) ?_; rintro e w4 ⟨rfl, hE4'⟩; have hE4 := hE3.trans hE4')
      | (go_at_call 127; refine (cZ _ hE4).mono ?_; rintro e w6 ⟨vZ, rfl, hOZ, hE6'⟩; have hE6 := hE4.trans hE6')
      | (go_at_call 125; with_reducible refine Calls.mono (cC _ _ hOZ.ints) ?_; rintro e w7 ⟨rfl, hE7'⟩; have hE7 := hE6.trans hE7')
      | (go_at_call 128; refine (cR _ hE7).mono ?_; rintro e w9 ⟨rfl, hE9'⟩; have hE9 := hE7.trans hE9')
      | (go_at_call 126; with_reducible refine Calls.mono (cD _) ?_; rintro e w10 ⟨rfl, hE10'⟩; have hE10 := hE9.trans hE10'))
    go_ret
    exact ⟨ret_str (by rw [Hs.out]; rfl), hE7⟩
  · have h3I := h3t rfl
    clear h3t h3f
    go_enter Try.func31, Try.ntmps31
    go_wp2_with fail
    refine (cE _ (Ext.refl _)).mono ?_
    rintro e w1 ⟨rfl, hE1⟩
    go_wp2_with (first
      | (go_at_call 124; refine (cS _ hE1).mono ?_; rintro e w2 ⟨vS, rfl, hOS, hE2'⟩; have hE2 := hE1.trans hE2'; obtain ⟨aS, kS, rfl, -⟩ := hOS.shape)
      | (go_at_call 125; with_reducible refine Calls.mono (cA _ hE2) ?_; rintro e w3 ⟨rfl, hE3'⟩; have hE3 := hE2.trans hE3')
      | (go_at_call 126; with_reducible refine Calls.mono (cB _) ?_; rintro e w4 ⟨rfl, hE4'⟩; have hE4 := hE3.trans hE4')
      | (go_at_call 127; refine (cZ _ hE4).mono ?_; rintro e w6 ⟨vZ, rfl, hOZ, hE6'⟩; have hE6 := hE4.trans hE6')
      | (go_at_call 125; with_reducible refine Calls.mono (cC _ _ hOZ.ints) ?_; rintro e w7 ⟨rfl, hE7'⟩; have hE7 := hE6.trans hE7')
      | (go_at_call 128; refine (cR _ hE7).mono ?_; rintro e w9 ⟨rfl, hE9'⟩; have hE9 := hE7.trans hE9')
      | (go_at_call 126; with_reducible refine Calls.mono (cD _) ?_; rintro e w10 ⟨rfl, hE10'⟩; have hE10 := hE9.trans hE10'))
    go_ret
    exact ⟨ret_str (by rw [Hs.out]; rfl), hE10⟩
end Go.Zz
