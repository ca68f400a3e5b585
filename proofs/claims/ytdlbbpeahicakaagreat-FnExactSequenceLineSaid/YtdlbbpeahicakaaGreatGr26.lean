/- SequenceLine of the program and of the reference. -/
import Derived.Test.YtdlbbpeahicakaaGreatGr25
import Derived.Test.YtdlbbpeahicakaaGreatGr21
import Derived.Test.YtdlbbpeahicakaaGreatGr8
import Derived.Test.YtdlbbpeahicakaaGreatGr10
import Derived.Test.YtdlbbpeahicakaaGreatGr22
import Derived.Test.YtdlbbpeahicakaaGreatLn
import Derived.Deep.RegionHeld3
namespace Go.Zz
open Go.RowKit Go.Proofs
set_option maxHeartbeats 4000000
set_option maxRecDepth 20000

noncomputable def sqlF (l xs : List Int) : ByteArray :=
  if seqB l xs then
    (fun (A B C D E : ByteArray) (b1 b2 b3 b4 : Bool) => (((if b2 then (((if b1 then ((((((((⟨#[115, 101, 113, 117, 101, 110, 99, 101, 32]⟩ : ByteArray) ++ A) ++ (⟨#[32, 115, 117, 109, 32]⟩ : ByteArray)) ++ B) ++ (⟨#[32, 115, 117, 98, 115, 117, 109, 115, 32]⟩ : ByteArray)) ++ C) ++ (⟨#[32, 115, 104, 111, 114, 116, 101, 115, 116, 32]⟩ : ByteArray)) ++ D) else ((((((⟨#[115, 101, 113, 117, 101, 110, 99, 101, 32]⟩ : ByteArray) ++ A) ++ (⟨#[32, 115, 117, 109, 32]⟩ : ByteArray)) ++ B) ++ (⟨#[32, 115, 117, 98, 115, 117, 109, 115, 32]⟩ : ByteArray)) ++ C)) ++ (⟨#[32, 108, 101, 110, 103, 116, 104, 115, 32]⟩ : ByteArray)) ++ E) else (if b1 then ((((((((⟨#[115, 101, 113, 117, 101, 110, 99, 101, 32]⟩ : ByteArray) ++ A) ++ (⟨#[32, 115, 117, 109, 32]⟩ : ByteArray)) ++ B) ++ (⟨#[32, 115, 117, 98, 115, 117, 109, 115, 32]⟩ : ByteArray)) ++ C) ++ (⟨#[32, 115, 104, 111, 114, 116, 101, 115, 116, 32]⟩ : ByteArray)) ++ D) else ((((((⟨#[115, 101, 113, 117, 101, 110, 99, 101, 32]⟩ : ByteArray) ++ A) ++ (⟨#[32, 115, 117, 109, 32]⟩ : ByteArray)) ++ B) ++ (⟨#[32, 115, 117, 98, 115, 117, 109, 115, 32]⟩ : ByteArray)) ++ C))) ++ (if b3 then (⟨#[32, 97, 116, 111, 109]⟩ : ByteArray) else (⟨#[]⟩ : ByteArray))) ++ (if b4 then (⟨#[32, 102, 114, 101, 101]⟩ : ByteArray) else (⟨#[]⟩ : ByteArray)))) (fqF l xs) (fmtB (tot l (xs.map Int.toNat) : Nat)) (fsF l (sbs l (xs.map Int.toNat) : Nat)) (numF (castL (szR l (xs.map Int.toNat)))) (numF (castL (lensL (facV l xs)))) (szB l (xs.map Int.toNat)) (facB l xs) (atmB l xs) (zfB l xs)
  else ⟨#[]⟩
theorem sql_no {l xs : List Int} (h : seqB l xs = false) : sqlF l xs = ⟨#[]⟩ := by unfold sqlF; rw [h]; rfl
theorem sql_yes {l : List Int} {X : List Nat} (h : seqB l (castL X) = true) : sqlF l (castL X) = (fun (A B C D E : ByteArray) (b1 b2 b3 b4 : Bool) => (((if b2 then (((if b1 then ((((((((⟨#[115, 101, 113, 117, 101, 110, 99, 101, 32]⟩ : ByteArray) ++ A) ++ (⟨#[32, 115, 117, 109, 32]⟩ : ByteArray)) ++ B) ++ (⟨#[32, 115, 117, 98, 115, 117, 109, 115, 32]⟩ : ByteArray)) ++ C) ++ (⟨#[32, 115, 104, 111, 114, 116, 101, 115, 116, 32]⟩ : ByteArray)) ++ D) else ((((((⟨#[115, 101, 113, 117, 101, 110, 99, 101, 32]⟩ : ByteArray) ++ A) ++ (⟨#[32, 115, 117, 109, 32]⟩ : ByteArray)) ++ B) ++ (⟨#[32, 115, 117, 98, 115, 117, 109, 115, 32]⟩ : ByteArray)) ++ C)) ++ (⟨#[32, 108, 101, 110, 103, 116, 104, 115, 32]⟩ : ByteArray)) ++ E) else (if b1 then ((((((((⟨#[115, 101, 113, 117, 101, 110, 99, 101, 32]⟩ : ByteArray) ++ A) ++ (⟨#[32, 115, 117, 109, 32]⟩ : ByteArray)) ++ B) ++ (⟨#[32, 115, 117, 98, 115, 117, 109, 115, 32]⟩ : ByteArray)) ++ C) ++ (⟨#[32, 115, 104, 111, 114, 116, 101, 115, 116, 32]⟩ : ByteArray)) ++ D) else ((((((⟨#[115, 101, 113, 117, 101, 110, 99, 101, 32]⟩ : ByteArray) ++ A) ++ (⟨#[32, 115, 117, 109, 32]⟩ : ByteArray)) ++ B) ++ (⟨#[32, 115, 117, 98, 115, 117, 109, 115, 32]⟩ : ByteArray)) ++ C))) ++ (if b3 then (⟨#[32, 97, 116, 111, 109]⟩ : ByteArray) else (⟨#[]⟩ : ByteArray))) ++ (if b4 then (⟨#[32, 102, 114, 101, 101]⟩ : ByteArray) else (⟨#[]⟩ : ByteArray)))) (fqF l (castL X)) (fmtB (tot l X : Nat)) (fsF l (sbs l X : Nat)) (numF (castL (szR l X))) (numF (castL (lensL (facV l (castL X))))) (szB l X) (facB l (castL X)) (atmB l (castL X)) (zfB l (castL X)) := by
  unfold sqlF; rw [if_pos h, castL_nat]
theorem sql_head (A B C D E : ByteArray) (b1 b2 : Bool) : (if b2 then lineF [(if b1 then lineF [lineF [(⟨#[115, 101, 113, 117, 101, 110, 99, 101]⟩ : ByteArray), A, (⟨#[115, 117, 109]⟩ : ByteArray), B, (⟨#[115, 117, 98, 115, 117, 109, 115]⟩ : ByteArray), C], (⟨#[115, 104, 111, 114, 116, 101, 115, 116]⟩ : ByteArray), D] else lineF [(⟨#[115, 101, 113, 117, 101, 110, 99, 101]⟩ : ByteArray), A, (⟨#[115, 117, 109]⟩ : ByteArray), B, (⟨#[115, 117, 98, 115, 117, 109, 115]⟩ : ByteArray), C]), (⟨#[108, 101, 110, 103, 116, 104, 115]⟩ : ByteArray), E] else (if b1 then lineF [lineF [(⟨#[115, 101, 113, 117, 101, 110, 99, 101]⟩ : ByteArray), A, (⟨#[115, 117, 109]⟩ : ByteArray), B, (⟨#[115, 117, 98, 115, 117, 109, 115]⟩ : ByteArray), C], (⟨#[115, 104, 111, 114, 116, 101, 115, 116]⟩ : ByteArray), D] else lineF [(⟨#[115, 101, 113, 117, 101, 110, 99, 101]⟩ : ByteArray), A, (⟨#[115, 117, 109]⟩ : ByteArray), B, (⟨#[115, 117, 98, 115, 117, 109, 115]⟩ : ByteArray), C])) = (if b2 then (((if b1 then ((((((((⟨#[115, 101, 113, 117, 101, 110, 99, 101, 32]⟩ : ByteArray) ++ A) ++ (⟨#[32, 115, 117, 109, 32]⟩ : ByteArray)) ++ B) ++ (⟨#[32, 115, 117, 98, 115, 117, 109, 115, 32]⟩ : ByteArray)) ++ C) ++ (⟨#[32, 115, 104, 111, 114, 116, 101, 115, 116, 32]⟩ : ByteArray)) ++ D) else ((((((⟨#[115, 101, 113, 117, 101, 110, 99, 101, 32]⟩ : ByteArray) ++ A) ++ (⟨#[32, 115, 117, 109, 32]⟩ : ByteArray)) ++ B) ++ (⟨#[32, 115, 117, 98, 115, 117, 109, 115, 32]⟩ : ByteArray)) ++ C)) ++ (⟨#[32, 108, 101, 110, 103, 116, 104, 115, 32]⟩ : ByteArray)) ++ E) else (if b1 then ((((((((⟨#[115, 101, 113, 117, 101, 110, 99, 101, 32]⟩ : ByteArray) ++ A) ++ (⟨#[32, 115, 117, 109, 32]⟩ : ByteArray)) ++ B) ++ (⟨#[32, 115, 117, 98, 115, 117, 109, 115, 32]⟩ : ByteArray)) ++ C) ++ (⟨#[32, 115, 104, 111, 114, 116, 101, 115, 116, 32]⟩ : ByteArray)) ++ D) else ((((((⟨#[115, 101, 113, 117, 101, 110, 99, 101, 32]⟩ : ByteArray) ++ A) ++ (⟨#[32, 115, 117, 109, 32]⟩ : ByteArray)) ++ B) ++ (⟨#[32, 115, 117, 98, 115, 117, 109, 115, 32]⟩ : ByteArray)) ++ C))) := by
  apply bytes_ext
  cases b1 <;> cases b2 <;> simp [lineF, jn, nthS, spB, List.getD]

theorem SequenceLine_any (v u : Value) (l xs : List Int) (w : World) (h : Ints w v l) (hu : Ints w u xs) :
    Calls Tryz.prog 9 #[.agg #[v], u] w fun e w' => e = .returned (.string (sqlF l xs)) ∧ Ext w w' := by
  obtain ⟨wb, hwb⟩ : ∃ wb, wb = w.alloc (.cells #[v] 27) := ⟨_, rfl⟩
  have hE0 := (Ext.refl w).alloc (.cells #[v] 27)
  have hb := box_cell w v 27
  rw [← hwb] at hE0 hb
  have hg : ∀ W, Ext wb W → Ints W v l := fun W hW => h.ext (hE0.trans hW)
  have hE := Ext.refl wb
  have Hsz : Hid (w.heap.size + 1 = wb.heap.size) := Lib.hid (by rw [hwb]; simp [go_sem])
  have Hwb := Lib.hid hwb
  clear hwb h
  have hbx := hb wb hE
  have hU0 : ∀ W, Ext wb W → Ints W u xs := fun W hW => hu.ext (hE0.trans hW)
  cases hs : seqB l xs
  · have cQ := fun W (hW : Ext wb W) => IsSequence_val v u l xs W (hg W hW) (hU0 W hW) hs
    have Hs := Lib.hid (sql_no hs)
    clear hU0 hu
    go_enter Tryz.func9, Tryz.ntmps9
    go_wp2_with fail
    rw [← Hwb.out]
    refine (cQ _ hE).mono ?_
    rintro e w1 ⟨rfl, hE1⟩
    go_wp2_with fail
    go_ret
    exact ⟨ret_str Hs.out.symm, hE0.trans hE1⟩
  obtain ⟨X, rfl, -, -, -, -⟩ := seqB_nat hs
  obtain ⟨h12, hgr, hX⟩ := seqB_natX hs
  have hU := hU0
  have hsb := sbs_bd hgr X hX
  have htb := tot_bd hgr X
  have hzr := szR_in (l := l) h12 hX
  have hlv := lensV_in l (castL X)
  have Hs := Lib.hid (sql_yes hs)
  have sA := fqF_szq l (castL X)
  have sB := fmtB_size (n := ((tot l X : Nat) : Int)) (by omega)
  have sC := fsF_szq l (sbs l X : Nat)
  have sD := numF9_size hzr.1 hzr.2
  have sE := numF9_size hlv.1 hlv.2
  have cQ := fun W (hW : Ext wb W) => IsSequence_val v u l (castL X) W (hg W hW) (hU W hW) hs
  have cA := fun W (hW : Ext wb W) => FormatSequence_any v u l (castL X) W (hg W hW) (hU W hW)
  have cB0 := fun W (hW : Ext wb W) => SumOfSequence_seq v u l X W (hg W hW) (hU W hW) hs
  have cB := fun W => FormatInt_any ((tot l X : Nat) : Int) (by omega) W
  have cC0 := fun W (hW : Ext wb W) => SubsumsOf_seq v u l X W (hg W hW) (hU W hW) hs
  have cC := fun W (hW : Ext wb W) => FormatSet_any v l (sbs l X : Nat) W (hg W hW)
  have cZ := fun W (hW : Ext wb W) => ShortestZero_seq v u l X W (hg W hW) (hU W hW) hs
  have cD := fun p W (hp : Ints W p (castL (szR l X))) => numbers9_any p (castL (szR l X)) W hp hzr.1 (by omega)
  have cL := fun W (hW : Ext wb W) => LengthsOf_any v u l (castL X) W (hg W hW) (hU W hW)
  have cE := fun p W (hp : Ints W p (castL (lensL (facV l (castL X))))) => numbers9_any p (castL (lensL (facV l (castL X)))) W hp hlv.1 (by omega)
  have c3 := fun W (hW : Ext wb W) => IsAtom_any v u l (castL X) W (hg W hW) (hU W hW)
  have c4 := fun W (hW : Ext wb W) => IsZeroFree_any v u l (castL X) W (hg W hW) (hU W hW)
  have cF := fun W (hW : Ext wb W) => FactorizationsOf_any v u l (castL X) W (hg W hW) (hU W hW)
  obtain ⟨b2, hb2⟩ : ∃ x, x = facB l (castL X) := ⟨_, rfl⟩
  rw [← hb2] at Hs
  simp only [← hb2] at cF
  obtain ⟨fv, hfv⟩ : ∃ x, x = facV l (castL X) := ⟨_, rfl⟩
  simp only [← hfv] at cF
  clear hfv
  obtain ⟨b3, hb3⟩ : ∃ x, x = atmB l (castL X) := ⟨_, rfl⟩
  obtain ⟨b4, hb4⟩ : ∃ x, x = zfB l (castL X) := ⟨_, rfl⟩
  rw [← hb3, ← hb4] at Hs
  simp only [← hb3] at c3
  simp only [← hb4] at c4
  obtain ⟨b1, hb1⟩ : ∃ x, x = szB l X := ⟨_, rfl⟩
  rw [← hb1] at Hs
  simp only [← hb1] at cZ
  obtain ⟨A, hA⟩ : ∃ x, x = fqF l (castL X) := ⟨_, rfl⟩
  obtain ⟨B, hB⟩ : ∃ x, x = fmtB ((tot l X : Nat) : Int) := ⟨_, rfl⟩
  obtain ⟨C, hC⟩ : ∃ x, x = fsF l (sbs l X : Nat) := ⟨_, rfl⟩
  obtain ⟨D, hD⟩ : ∃ x, x = numF (castL (szR l X)) := ⟨_, rfl⟩
  obtain ⟨E, hE'⟩ : ∃ x, x = numF (castL (lensL (facV l (castL X)))) := ⟨_, rfl⟩
  rw [← hA, ← hB, ← hC, ← hD, ← hE'] at Hs
  simp only [← hA] at cA sA
  simp only [← hB] at cB sB
  simp only [← hC] at cC sC
  simp only [← hD] at cD sD
  simp only [← hE'] at cE sE
  obtain ⟨tn, htn⟩ : ∃ x, x = tot l X := ⟨_, rfl⟩
  obtain ⟨sn, hsn⟩ : ∃ x, x = sbs l X := ⟨_, rfl⟩
  obtain ⟨zl, hzl⟩ : ∃ x, x = castL (szR l X) := ⟨_, rfl⟩
  obtain ⟨ll, hll⟩ : ∃ x, x = castL (lensL (facV l (castL X))) := ⟨_, rfl⟩
  simp only [← htn] at cB0 cB
  simp only [← hsn] at cC0 cC
  simp only [← hzl] at cZ cD
  simp only [← hll] at cL cE
  obtain ⟨aoU, cU, adrU, rfl, hadrU, hcU⟩ := (hU _ hE).nats
  clear hadrU hcU
  clear hb1 hb2 hb3 hb4 hA hB hC hD hE' htn hsn hzl hll hsb htb hzr hlv hs hX hgr hU0 hU hu

  have hln_X0 : ∀ i, i < ([(⟨#[115, 101, 113, 117, 101, 110, 99, 101]⟩ : ByteArray), A, (⟨#[115, 117, 109]⟩ : ByteArray), B, (⟨#[115, 117, 98, 115, 117, 109, 115]⟩ : ByteArray), C] : List ByteArray).length → (nthS [(⟨#[115, 101, 113, 117, 101, 110, 99, 101]⟩ : ByteArray), A, (⟨#[115, 117, 109]⟩ : ByteArray), B, (⟨#[115, 117, 98, 115, 117, 109, 115]⟩ : ByteArray), C] i).size ≤ 5000 := by
    intro i hi
    match i, hi with
    | 0, _ => exact (by decide : ((⟨#[115, 101, 113, 117, 101, 110, 99, 101]⟩ : ByteArray) : ByteArray).size ≤ 5000)
    | 1, _ => exact Nat.le_trans sA (by decide)
    | 2, _ => exact (by decide : ((⟨#[115, 117, 109]⟩ : ByteArray) : ByteArray).size ≤ 5000)
    | 3, _ => exact Nat.le_trans sB (by decide)
    | 4, _ => exact (by decide : ((⟨#[115, 117, 98, 115, 117, 109, 115]⟩ : ByteArray) : ByteArray).size ≤ 5000)
    | 5, _ => exact Nat.le_trans sC (by decide)
  have z0 : (lineF [(⟨#[115, 101, 113, 117, 101, 110, 99, 101]⟩ : ByteArray), A, (⟨#[115, 117, 109]⟩ : ByteArray), B, (⟨#[115, 117, 98, 115, 117, 109, 115]⟩ : ByteArray), C]).size ≤ 1200 := by
    simp only [lineF, jn, nthS, spB, List.getD, List.length_cons, List.length_nil, ByteArray.size_append]
    simp [ByteArray.size_append]
    have q0 : (⟨#[]⟩ : ByteArray).size = 0 := rfl
    have q1 : (⟨#[32]⟩ : ByteArray).size = 1 := rfl
    have r0 : (⟨#[115, 101, 113, 117, 101, 110, 99, 101]⟩ : ByteArray).size = 8 := rfl
    have r1 : (⟨#[115, 117, 109]⟩ : ByteArray).size = 3 := rfl
    have r2 : (⟨#[115, 117, 98, 115, 117, 109, 115]⟩ : ByteArray).size = 7 := rfl
    have r3 := sA
    have r4 := sB
    have r5 := sC
    omega
  obtain ⟨X0, hX0⟩ : ∃ x, x = lineF [(⟨#[115, 101, 113, 117, 101, 110, 99, 101]⟩ : ByteArray), A, (⟨#[115, 117, 109]⟩ : ByteArray), B, (⟨#[115, 117, 98, 115, 117, 109, 115]⟩ : ByteArray), C] := ⟨_, rfl⟩
  rw [← hX0] at z0
  have cL0 : ∀ (W : World), Calls Tryz.prog 64 #[.slice (some ⟨W.heap.size, 0, none⟩) 6 6] (W.alloc (.cells #[.string (⟨#[115, 101, 113, 117, 101, 110, 99, 101]⟩ : ByteArray), .string A, .string (⟨#[115, 117, 109]⟩ : ByteArray), .string B, .string (⟨#[115, 117, 98, 115, 117, 109, 115]⟩ : ByteArray), .string C] 9)) fun e w' => e = .returned (.string X0) ∧ Ext (W.alloc (.cells #[.string (⟨#[115, 101, 113, 117, 101, 110, 99, 101]⟩ : ByteArray), .string A, .string (⟨#[115, 117, 109]⟩ : ByteArray), .string B, .string (⟨#[115, 117, 98, 115, 117, 109, 115]⟩ : ByteArray), .string C] 9)) w' := fun W =>
    (line_any _ _ _ (strs_lit W [(⟨#[115, 101, 113, 117, 101, 110, 99, 101]⟩ : ByteArray), A, (⟨#[115, 117, 109]⟩ : ByteArray), B, (⟨#[115, 117, 98, 115, 117, 109, 115]⟩ : ByteArray), C] 9 (by simp)) hln_X0 (by simp)).mono fun e w' ⟨h1, h2⟩ => ⟨by rw [h1, hX0], by rw [← h2]; exact Ext.refl _⟩
  have z1 : (if b1 then lineF [X0, (⟨#[115, 104, 111, 114, 116, 101, 115, 116]⟩ : ByteArray), D] else X0).size ≤ 1800 := by
    cases b1
    · exact Nat.le_trans z0 (by decide)
    · have q0 : (⟨#[]⟩ : ByteArray).size = 0 := rfl
      have q1 : (⟨#[32]⟩ : ByteArray).size = 1 := rfl
      have rX := z0
      have r0 : (⟨#[115, 104, 111, 114, 116, 101, 115, 116]⟩ : ByteArray).size = 8 := rfl
      have r1 := sD
      simp [lineF, jn, nthS, spB, List.getD, ByteArray.size_append]; omega
  obtain ⟨X1, hX1⟩ : ∃ x, x = (if b1 then lineF [X0, (⟨#[115, 104, 111, 114, 116, 101, 115, 116]⟩ : ByteArray), D] else X0) := ⟨_, rfl⟩
  rw [← hX1] at z1
  have cI1 : ∀ (W : World), Calls Tryz.prog 71 #[.string X0, .bool b1, .slice (some ⟨W.heap.size, 0, none⟩) 2 2] (W.alloc (.cells #[.string (⟨#[115, 104, 111, 114, 116, 101, 115, 116]⟩ : ByteArray), .string D] 9)) fun e w' => e = .returned (.string X1) ∧ Ext (W.alloc (.cells #[.string (⟨#[115, 104, 111, 114, 116, 101, 115, 116]⟩ : ByteArray), .string D] 9)) w' := fun W => by
    rw [hX1]
    exact ifSo_any X0 b1 _ [(⟨#[115, 104, 111, 114, 116, 101, 115, 116]⟩ : ByteArray), D] _ (strs_lit W [(⟨#[115, 104, 111, 114, 116, 101, 115, 116]⟩ : ByteArray), D] 9 (by simp)) (Nat.le_trans z0 (by decide)) (fun i hi => by
      match i, hi with
      | 0, _ => exact (by decide : ((⟨#[115, 104, 111, 114, 116, 101, 115, 116]⟩ : ByteArray) : ByteArray).size ≤ 5000)
      | 1, _ => exact Nat.le_trans sD (by decide)) (by simp) (by simp)
  have z2 : (if b2 then lineF [X1, (⟨#[108, 101, 110, 103, 116, 104, 115]⟩ : ByteArray), E] else X1).size ≤ 2400 := by
    cases b2
    · exact Nat.le_trans z1 (by decide)
    · have q0 : (⟨#[]⟩ : ByteArray).size = 0 := rfl
      have q1 : (⟨#[32]⟩ : ByteArray).size = 1 := rfl
      have rX := z1
      have r0 : (⟨#[108, 101, 110, 103, 116, 104, 115]⟩ : ByteArray).size = 7 := rfl
      have r1 := sE
      simp [lineF, jn, nthS, spB, List.getD, ByteArray.size_append]; omega
  obtain ⟨X2, hX2⟩ : ∃ x, x = (if b2 then lineF [X1, (⟨#[108, 101, 110, 103, 116, 104, 115]⟩ : ByteArray), E] else X1) := ⟨_, rfl⟩
  rw [← hX2] at z2
  have cI2 : ∀ (W : World), Calls Tryz.prog 71 #[.string X1, .bool b2, .slice (some ⟨W.heap.size, 0, none⟩) 2 2] (W.alloc (.cells #[.string (⟨#[108, 101, 110, 103, 116, 104, 115]⟩ : ByteArray), .string E] 9)) fun e w' => e = .returned (.string X2) ∧ Ext (W.alloc (.cells #[.string (⟨#[108, 101, 110, 103, 116, 104, 115]⟩ : ByteArray), .string E] 9)) w' := fun W => by
    rw [hX2]
    exact ifSo_any X1 b2 _ [(⟨#[108, 101, 110, 103, 116, 104, 115]⟩ : ByteArray), E] _ (strs_lit W [(⟨#[108, 101, 110, 103, 116, 104, 115]⟩ : ByteArray), E] 9 (by simp)) (Nat.le_trans z1 (by decide)) (fun i hi => by
      match i, hi with
      | 0, _ => exact (by decide : ((⟨#[108, 101, 110, 103, 116, 104, 115]⟩ : ByteArray) : ByteArray).size ≤ 5000)
      | 1, _ => exact Nat.le_trans sE (by decide)) (by simp) (by simp)
  have z3 : (if b3 then lineF [X2, (⟨#[97, 116, 111, 109]⟩ : ByteArray)] else X2).size ≤ 2410 := by
    cases b3
    · exact Nat.le_trans z2 (by decide)
    · have q0 : (⟨#[]⟩ : ByteArray).size = 0 := rfl
      have q1 : (⟨#[32]⟩ : ByteArray).size = 1 := rfl
      have rX := z2
      have r0 : (⟨#[97, 116, 111, 109]⟩ : ByteArray).size = 4 := rfl
      simp [lineF, jn, nthS, spB, List.getD, ByteArray.size_append]; omega
  obtain ⟨X3, hX3⟩ : ∃ x, x = (if b3 then lineF [X2, (⟨#[97, 116, 111, 109]⟩ : ByteArray)] else X2) := ⟨_, rfl⟩
  rw [← hX3] at z3
  have cI3 : ∀ (W : World), Calls Tryz.prog 71 #[.string X2, .bool b3, .slice (some ⟨W.heap.size, 0, none⟩) 1 1] (W.alloc (.cells #[.string (⟨#[97, 116, 111, 109]⟩ : ByteArray)] 9)) fun e w' => e = .returned (.string X3) ∧ Ext (W.alloc (.cells #[.string (⟨#[97, 116, 111, 109]⟩ : ByteArray)] 9)) w' := fun W => by
    rw [hX3]
    exact ifSo_any X2 b3 _ [(⟨#[97, 116, 111, 109]⟩ : ByteArray)] _ (strs_lit W [(⟨#[97, 116, 111, 109]⟩ : ByteArray)] 9 (by simp)) (Nat.le_trans z2 (by decide)) (fun i hi => by
      match i, hi with
      | 0, _ => exact (by decide : ((⟨#[97, 116, 111, 109]⟩ : ByteArray) : ByteArray).size ≤ 5000)) (by simp) (by simp)
  obtain ⟨X4, hX4⟩ : ∃ x, x = (if b4 then lineF [X3, (⟨#[102, 114, 101, 101]⟩ : ByteArray)] else X3) := ⟨_, rfl⟩
  have cI4 : ∀ (W : World), Calls Tryz.prog 71 #[.string X3, .bool b4, .slice (some ⟨W.heap.size, 0, none⟩) 1 1] (W.alloc (.cells #[.string (⟨#[102, 114, 101, 101]⟩ : ByteArray)] 9)) fun e w' => e = .returned (.string X4) ∧ Ext (W.alloc (.cells #[.string (⟨#[102, 114, 101, 101]⟩ : ByteArray)] 9)) w' := fun W => by
    rw [hX4]
    exact ifSo_any X3 b4 _ [(⟨#[102, 114, 101, 101]⟩ : ByteArray)] _ (strs_lit W [(⟨#[102, 114, 101, 101]⟩ : ByteArray)] 9 (by simp)) (Nat.le_trans z3 (by decide)) (fun i hi => by
      match i, hi with
      | 0, _ => exact (by decide : ((⟨#[102, 114, 101, 101]⟩ : ByteArray) : ByteArray).size ≤ 5000)) (by simp) (by simp)
  have Hfin : Hid (sqlF l (castL X) = X4) := Lib.hid (by
    rw [hX4, one_more X3 b4 (⟨#[102, 114, 101, 101]⟩ : ByteArray) (⟨#[32, 102, 114, 101, 101]⟩ : ByteArray) rfl, hX3, one_more X2 b3 (⟨#[97, 116, 111, 109]⟩ : ByteArray) (⟨#[32, 97, 116, 111, 109]⟩ : ByteArray) rfl, hX2, hX1, hX0, sql_head, Hs.out])
  clear hX0 hX1 hX2 hX3 hX4 hln_X0 z0 z1 z2 z3 sA sB sC sD sE Hs
  go_enter Tryz.func9, Tryz.ntmps9
  go_wp2_with fail
  rw [← Hwb.out]
  refine (cQ _ hE).mono ?_
  rintro e w2 ⟨rfl, hE'⟩
  replace hE := hE.trans hE'
  clear hE' cQ
  have kb := fun W (hW : Ext w2 W) => hb W (hE.trans hW)
  go_wp2_with fail
  have hD := (Ext.refl w2).drew
  first | (go_region_held3 (fun W => Ext w2 W ∧ W.cell? ⟨w.heap.size, 0, none⟩ = some v) (exact ⟨(by repeat (first | assumption | exact Ext.refl _ | (apply And.left; assumption) | apply Ext.drew | apply Ext.alloc)), kb _ (by repeat (first | assumption | exact Ext.refl _ | (apply And.left; assumption) | apply Ext.drew | apply Ext.alloc))⟩) (first | (go_at_call 65; ((first | (with_reducible refine Calls.mono (cA _ (hE.trans (by repeat (first | assumption | exact Ext.refl _ | (apply And.left; assumption) | apply Ext.drew | apply Ext.alloc)))) ?_)); rintro e wH ⟨rfl, hX⟩; have hH := Ext.trans (a := w2) (by repeat (first | assumption | exact Ext.refl _ | (apply And.left; assumption) | apply Ext.drew | apply Ext.alloc)) hX)) | (go_at_call 67; ((first | (with_reducible refine Calls.mono (cB0 _ (hE.trans (by repeat (first | assumption | exact Ext.refl _ | (apply And.left; assumption) | apply Ext.drew | apply Ext.alloc)))) ?_)); rintro e wH ⟨rfl, hX⟩; have hH := Ext.trans (a := w2) (by repeat (first | assumption | exact Ext.refl _ | (apply And.left; assumption) | apply Ext.drew | apply Ext.alloc)) hX)) | (go_at_call 66; ((first | (with_reducible refine Calls.mono (cB _) ?_)); rintro e wH ⟨rfl, hX⟩; have hH := Ext.trans (a := w2) (by repeat (first | assumption | exact Ext.refl _ | (apply And.left; assumption) | apply Ext.drew | apply Ext.alloc)) hX)) | (go_at_call 69; ((first | (with_reducible refine Calls.mono (cC0 _ (hE.trans (by repeat (first | assumption | exact Ext.refl _ | (apply And.left; assumption) | apply Ext.drew | apply Ext.alloc)))) ?_)); rintro e wH ⟨rfl, hX⟩; have hH := Ext.trans (a := w2) (by repeat (first | assumption | exact Ext.refl _ | (apply And.left; assumption) | apply Ext.drew | apply Ext.alloc)) hX)) | (go_at_call 68; ((first | (with_reducible refine Calls.mono (cC _ (hE.trans (by repeat (first | assumption | exact Ext.refl _ | (apply And.left; assumption) | apply Ext.drew | apply Ext.alloc)))) ?_)); rintro e wH ⟨rfl, hX⟩; have hH := Ext.trans (a := w2) (by repeat (first | assumption | exact Ext.refl _ | (apply And.left; assumption) | apply Ext.drew | apply Ext.alloc)) hX)) | (go_at_call 64; ((with_reducible refine Calls.mono (cL0 _) ?_); rintro e wL ⟨rfl, hX⟩; have hHL := Ext.trans (a := w2) (by repeat (first | assumption | exact Ext.refl _ | (apply And.left; assumption) | apply Ext.drew | apply Ext.alloc)) hX)))) | (fail "the region")
  have hE3 := hE.trans hHL
  have kb3 := hb _ hE3
  go_wp2_with (first
    | (go_at_call 70; refine (cZ _ hE3).mono ?_; rintro e w6 ⟨p, rfl, hOP, hX6⟩; obtain ⟨aoP, cP, rfl, -⟩ := hOP.shape; have hE6 := hE3.trans hX6)
    | (go_at_call 72; with_reducible refine Calls.mono (cD _ _ hOP.ints) ?_; rintro e w7 ⟨rfl, hX7⟩; have hE7 := hE6.trans hX7)
    | (go_at_call 71; with_reducible refine Calls.mono (cI1 _) ?_; rintro e w8 ⟨rfl, hX8⟩; have hE8 := hE7.trans (Ext.trans ((Ext.refl _).alloc _) hX8); have kb8 := hb _ hE8)
    | (go_at_call 73; refine (cF _ hE8).mono ?_; rintro e w9 ⟨⟨vF, rfl, hOF⟩, hX9⟩; obtain ⟨aoF, cFv, rfl, -⟩ := hOF.shape; have hE9 := hE8.trans hX9; have kb9 := hb _ hE9)
    | (go_at_call 74; refine (cL _ hE9).mono ?_; rintro e w10 ⟨⟨vL, rfl, hOL⟩, hX10⟩; obtain ⟨aoL, cLv, rfl, -⟩ := hOL.shape; have hE10 := hE9.trans hX10)
    | (go_at_call 72; with_reducible refine Calls.mono (cE _ _ hOL.ints) ?_; rintro e w11 ⟨rfl, hX11⟩; have hE11 := hE10.trans hX11)
    | (go_at_call 71; with_reducible refine Calls.mono (cI2 _) ?_; rintro e w12 ⟨rfl, hX12⟩; have hE12 := hE11.trans (Ext.trans ((Ext.refl _).alloc _) hX12); have kb12 := hb _ hE12)
    | (go_at_call 75; refine (c3 _ hE12).mono ?_; rintro e w13 ⟨rfl, hX13⟩; have hE13 := hE12.trans hX13)
    | (go_at_call 71; with_reducible refine Calls.mono (cI3 _) ?_; rintro e w14 ⟨rfl, hX14⟩; have hE14 := hE13.trans (Ext.trans ((Ext.refl _).alloc _) hX14); have kb14 := hb _ hE14)
    | (go_at_call 76; refine (c4 _ hE14).mono ?_; rintro e w15 ⟨rfl, hX15⟩; have hE15 := hE14.trans hX15)
    | (go_at_call 71; with_reducible refine Calls.mono (cI4 _) ?_; rintro e w16 ⟨rfl, hX16⟩; have hE16 := hE15.trans (Ext.trans ((Ext.refl _).alloc _) hX16)))
  go_ret
  exact ⟨ret_str Hfin.out.symm, hE0.trans hE16⟩
theorem sSequenceLine_any (v u : Value) (l xs : List Int) (w : World) (h : Ints w v l) (hu : Ints w u xs) :
    Calls Tryz.prog 6 #[.agg #[v], u] w fun e w' => e = .returned (.string (sqlF l xs)) ∧ Ext w w' := by
  obtain ⟨wb, hwb⟩ : ∃ wb, wb = w.alloc (.cells #[v] 27) := ⟨_, rfl⟩
  have hE0 := (Ext.refl w).alloc (.cells #[v] 27)
  have hb := box_cell w v 27
  rw [← hwb] at hE0 hb
  have hg : ∀ W, Ext wb W → Ints W v l := fun W hW => h.ext (hE0.trans hW)
  have hE := Ext.refl wb
  have Hsz : Hid (w.heap.size + 1 = wb.heap.size) := Lib.hid (by rw [hwb]; simp [go_sem])
  have Hwb := Lib.hid hwb
  clear hwb h
  have hbx := hb wb hE
  have hU0 : ∀ W, Ext wb W → Ints W u xs := fun W hW => hu.ext (hE0.trans hW)
  cases hs : seqB l xs
  · have cQ := fun W (hW : Ext wb W) => sIsSequence_val v u l xs W (hg W hW) (hU0 W hW) hs
    have Hs := Lib.hid (sql_no hs)
    clear hU0 hu
    go_enter Tryz.func6, Tryz.ntmps6
    go_wp2_with fail
    rw [← Hwb.out]
    refine (cQ _ hE).mono ?_
    rintro e w1 ⟨rfl, hE1⟩
    go_wp2_with fail
    go_ret
    exact ⟨ret_str Hs.out.symm, hE0.trans hE1⟩
  obtain ⟨X, rfl, -, -, -, -⟩ := seqB_nat hs
  obtain ⟨h12, hgr, hX⟩ := seqB_natX hs
  have hU := hU0
  have hsb := sbs_bd hgr X hX
  have htb := tot_bd hgr X
  have hzr := szR_in (l := l) h12 hX
  have hlv := lensV_in l (castL X)
  have Hs := Lib.hid (sql_yes hs)
  have sA := fqF_szq l (castL X)
  have sB := fmtB_size (n := ((tot l X : Nat) : Int)) (by omega)
  have sC := fsF_szq l (sbs l X : Nat)
  have sD := numF9_size hzr.1 hzr.2
  have sE := numF9_size hlv.1 hlv.2
  have cQ := fun W (hW : Ext wb W) => sIsSequence_val v u l (castL X) W (hg W hW) (hU W hW) hs
  have cA := fun W (hW : Ext wb W) => sFormatSequence_any v u l (castL X) W (hg W hW) (hU W hW)
  have cB0 := fun W (hW : Ext wb W) => l16Sum_any v u l X W (hg W hW) (hU W hW) (Lib.hid hgr) (Lib.hid hX)
  have cB := fun W => sFormatInt_any ((tot l X : Nat) : Int) (by omega) W
  have cC0 := fun W (hW : Ext wb W) => l16Subsums_any v u l X W (hg W hW) (hU W hW) (Lib.hid hgr) (Lib.hid hX)
  have cC := fun W (hW : Ext wb W) => sFormatSet_any v l (sbs l X : Nat) W (hg W hW)
  have cZ := fun W (hW : Ext wb W) => sShortestZero_seq v u l X W (hg W hW) (hU W hW) hs
  have cD := fun p W (hp : Ints W p (castL (szR l X))) => sNumbers9_any p (castL (szR l X)) W hp hzr.1 (by omega)
  have cL := fun W (hW : Ext wb W) => sLengthsOf_any v u l (castL X) W (hg W hW) (hU W hW)
  have cE := fun p W (hp : Ints W p (castL (lensL (facV l (castL X))))) => sNumbers9_any p (castL (lensL (facV l (castL X)))) W hp hlv.1 (by omega)
  have c3 := fun W (hW : Ext wb W) => sIsAtom_any v u l (castL X) W (hg W hW) (hU W hW)
  have c4 := fun W (hW : Ext wb W) => sIsZeroFree_any v u l (castL X) W (hg W hW) (hU W hW)
  have cS := fun W (hW : Ext wb W) => sIsZeroSum_any v u l (castL X) W (hg W hW) (hU W hW)
  have cO := fun W (hW : Ext wb W) => l2Order_any v l W (hg W hW) (Lib.hid hgr)
  obtain ⟨b2, hb2⟩ : ∃ x, x = facB l (castL X) := ⟨_, rfl⟩
  have hfb : b2 = (decide (ord l ≤ 7) && (zsB l (castL X) && decide (X.length ≤ 10))) := by rw [hb2]; unfold facB atB; rw [hgr, castL_len, Bool.true_and]
  rw [← hb2] at Hs
  obtain ⟨zb, hzb⟩ : ∃ x, x = zsB l (castL X) := ⟨_, rfl⟩
  simp only [← hzb] at cS
  rw [← hzb] at hfb
  have hob := ord_bd hgr
  obtain ⟨on, hon⟩ : ∃ x, x = ord l := ⟨_, rfl⟩
  simp only [← hon] at cO
  rw [← hon] at hfb hob
  clear hzb hon
  obtain ⟨b3, hb3⟩ : ∃ x, x = atmB l (castL X) := ⟨_, rfl⟩
  obtain ⟨b4, hb4⟩ : ∃ x, x = zfB l (castL X) := ⟨_, rfl⟩
  rw [← hb3, ← hb4] at Hs
  simp only [← hb3] at c3
  simp only [← hb4] at c4
  obtain ⟨b1, hb1⟩ : ∃ x, x = szB l X := ⟨_, rfl⟩
  rw [← hb1] at Hs
  simp only [← hb1] at cZ
  obtain ⟨A, hA⟩ : ∃ x, x = fqF l (castL X) := ⟨_, rfl⟩
  obtain ⟨B, hB⟩ : ∃ x, x = fmtB ((tot l X : Nat) : Int) := ⟨_, rfl⟩
  obtain ⟨C, hC⟩ : ∃ x, x = fsF l (sbs l X : Nat) := ⟨_, rfl⟩
  obtain ⟨D, hD⟩ : ∃ x, x = numF (castL (szR l X)) := ⟨_, rfl⟩
  obtain ⟨E, hE'⟩ : ∃ x, x = numF (castL (lensL (facV l (castL X)))) := ⟨_, rfl⟩
  rw [← hA, ← hB, ← hC, ← hD, ← hE'] at Hs
  simp only [← hA] at cA sA
  simp only [← hB] at cB sB
  simp only [← hC] at cC sC
  simp only [← hD] at cD sD
  simp only [← hE'] at cE sE
  obtain ⟨tn, htn⟩ : ∃ x, x = tot l X := ⟨_, rfl⟩
  obtain ⟨sn, hsn⟩ : ∃ x, x = sbs l X := ⟨_, rfl⟩
  obtain ⟨zl, hzl⟩ : ∃ x, x = castL (szR l X) := ⟨_, rfl⟩
  obtain ⟨ll, hll⟩ : ∃ x, x = castL (lensL (facV l (castL X))) := ⟨_, rfl⟩
  simp only [← htn] at cB0 cB
  simp only [← hsn] at cC0 cC
  simp only [← hzl] at cZ cD
  simp only [← hll] at cL cE
  obtain ⟨aoU, cU, adrU, rfl, hadrU, hcU⟩ := (hU _ hE).nats
  clear hadrU hcU
  clear hb1 hb2 hb3 hb4 hA hB hC hD hE' htn hsn hzl hll hsb htb hzr hlv hs hX hgr hU0 hU hu

  have cY0 := fun W => yes_any b3 (⟨#[32, 97, 116, 111, 109]⟩ : ByteArray) W
  have zY0 : (if b3 then (⟨#[32, 97, 116, 111, 109]⟩ : ByteArray) else (⟨#[]⟩ : ByteArray)).size ≤ 20 := by cases b3 <;> decide
  obtain ⟨y0, hy0⟩ : ∃ x, x = (if b3 then (⟨#[32, 97, 116, 111, 109]⟩ : ByteArray) else (⟨#[]⟩ : ByteArray)) := ⟨_, rfl⟩
  rw [← hy0] at cY0 zY0
  have Hy0 := Lib.hid hy0
  clear hy0
  have cY1 := fun W => yes_any b4 (⟨#[32, 102, 114, 101, 101]⟩ : ByteArray) W
  have zY1 : (if b4 then (⟨#[32, 102, 114, 101, 101]⟩ : ByteArray) else (⟨#[]⟩ : ByteArray)).size ≤ 20 := by cases b4 <;> decide
  obtain ⟨y1, hy1⟩ : ∃ x, x = (if b4 then (⟨#[32, 102, 114, 101, 101]⟩ : ByteArray) else (⟨#[]⟩ : ByteArray)) := ⟨_, rfl⟩
  rw [← hy1] at cY1 zY1
  have Hy1 := Lib.hid hy1
  clear hy1
  have Hw : ∀ (c : Bool), c = b1 → True := fun _ _ => trivial
  clear Hw
  go_enter Tryz.func6, Tryz.ntmps6
  go_wp2_with fail
  rw [← Hwb.out]
  refine (cQ _ hE).mono ?_
  rintro e w2 ⟨rfl, hE2⟩
  clear cQ
  have kb2 := fun U => hb _ (hE2.trans (lat_ext w2 U))
  replace hE := Ext.refl w2
  go_wp2_with fail
  (refine wp_region_lat (w2) (by kernel_rfl) (by kernel_rfl) hE ?_); (repeat (go_big_quiet_step (first | (go_at_call 51; with_reducible exact Calls.lat (cA _ (hE2.trans (lat_ext w2 _)))) | (go_at_call 53; with_reducible exact Calls.lat (cB0 _ (hE2.trans (lat_ext w2 _)))) | (go_at_call 52; with_reducible exact Calls.lat (cB _)) | (go_at_call 55; with_reducible exact Calls.lat (cC0 _ (hE2.trans (lat_ext w2 _)))) | (go_at_call 54; with_reducible exact Calls.lat (cC _ (hE2.trans (lat_ext w2 _))))))); (refine wpQuiet_nil ?_); (intro W hE'); (replace hE := lat_of hE'); (clear hE')
  rename World => w3
  have hE3 := hE2.trans hE
  have kb3 := hb _ hE3
  clear kb2 hE cA cB0 cB cC0 cC
  cases b1
  · have Hfb := Lib.hid hfb
    clear hfb
    rcases zb with _ | _
    · have Hb2 : Hid (b2 = false) := Lib.hid (by rw [Hfb.out]; simp)
      go_wp2_with (first
            | (go_at_call 56; refine (cZ _ hE3).mono ?_; rintro e w6 ⟨p, rfl, hOP, hX6⟩; obtain ⟨aoP, cP, rfl, -⟩ := hOP.shape; have hE6 := hE3.trans hX6; have hE8 := hE6; have kb8 := hb _ hE8; have hE9 := hE8; have wX := w6)
            | (go_at_call 58; refine (cS _ hE8).mono ?_; rintro e w9 ⟨rfl, hX9⟩; have hE9 := hE8.trans hX9; have kb9 := hb _ hE9; have kq := fun U => hb _ (hE9.trans (lat_ext w9 U)); have hE := Ext.refl w9))
      (refine wp_region_lat (w9) (by kernel_rfl) (by kernel_rfl) hE ?_); (repeat (go_big_quiet_step (first | (go_at_call 62; with_reducible exact Calls.lat (c3 _ (hE9.trans (lat_ext w9 _)))) | (go_at_call 38; with_reducible exact Calls.lat (c4 _ (hE9.trans (lat_ext w9 _)))) | (go_at_call 61; first | with_reducible exact Calls.lat_same (cY0 _) | with_reducible exact Calls.lat_same (cY1 _))))); (refine wpQuiet_nil ?_); (intro W hE'); (replace hE := lat_of hE'); (clear hE')
      go_wp2_with fail
      go_ret
      exact ⟨ret_str (by rw [Hs.out, Hy0.out, Hy1.out, Hb2.out]; rfl), hE0.trans (hE9.trans hE)⟩
    · by_cases h7 : on ≤ 7
      · by_cases h10 : X.length ≤ 10
        · have Hb2 : Hid (b2 = true) := Lib.hid (by rw [Hfb.out, decide_eq_true h7, decide_eq_true h10]; rfl)
          have h7I : ((on : Nat) : Int) ≤ 7 := by omega
          have h10I : ((X.length : Nat) : Int) ≤ 10 := by omega
          clear h7
          clear h10
          go_wp2_with (first
                | (go_at_call 56; refine (cZ _ hE3).mono ?_; rintro e w6 ⟨p, rfl, hOP, hX6⟩; obtain ⟨aoP, cP, rfl, -⟩ := hOP.shape; have hE6 := hE3.trans hX6; have hE8 := hE6; have kb8 := hb _ hE8; have hE9 := hE8; have wX := w6)
                | (go_at_call 58; refine (cS _ hE8).mono ?_; rintro e w9 ⟨rfl, hX9⟩; have hE9 := hE8.trans hX9; have kb9 := hb _ hE9; have kq := fun U => hb _ (hE9.trans (lat_ext w9 U)); have hE := Ext.refl w9)
                | (go_at_call 59; refine (cO _ hE9).mono ?_; rintro e w10 ⟨rfl, hX10⟩; have hE10 := hE9.trans hX10; have kb10 := hb _ hE10; have kq := fun U => hb _ (hE10.trans (lat_ext w10 U)); replace hE := Ext.refl w10)
                | (go_at_call 60; refine (cL _ hE10).mono ?_; rintro e w11 ⟨⟨vL, rfl, hOL⟩, hX11⟩; obtain ⟨aoL, cLv, rfl, -⟩ := hOL.shape; have hE11 := hE10.trans hX11)
                | (go_at_call 57; with_reducible refine Calls.mono (cE _ _ hOL.ints) ?_; rintro e w12 ⟨rfl, hX12⟩; have hE12 := hE11.trans hX12; have kb12 := hb _ hE12; have kq := fun U => hb _ (hE12.trans (lat_ext w12 U)); replace hE := Ext.refl w12))
          (refine wp_region_lat (w12) (by kernel_rfl) (by kernel_rfl) hE ?_); (repeat (go_big_quiet_step (first | (go_at_call 62; with_reducible exact Calls.lat (c3 _ (hE12.trans (lat_ext w12 _)))) | (go_at_call 38; with_reducible exact Calls.lat (c4 _ (hE12.trans (lat_ext w12 _)))) | (go_at_call 61; first | with_reducible exact Calls.lat_same (cY0 _) | with_reducible exact Calls.lat_same (cY1 _))))); (refine wpQuiet_nil ?_); (intro W hE'); (replace hE := lat_of hE'); (clear hE')
          go_wp2_with fail
          go_ret
          exact ⟨ret_str (by rw [Hs.out, Hy0.out, Hy1.out, Hb2.out]; rfl), hE0.trans (hE12.trans hE)⟩
        · have Hb2 : Hid (b2 = false) := Lib.hid (by rw [Hfb.out, decide_eq_false h10]; simp)
          have h7I : ((on : Nat) : Int) ≤ 7 := by omega
          have h10I : ¬ ((X.length : Nat) : Int) ≤ 10 := by omega
          clear h7
          clear h10
          go_wp2_with (first
                | (go_at_call 56; refine (cZ _ hE3).mono ?_; rintro e w6 ⟨p, rfl, hOP, hX6⟩; obtain ⟨aoP, cP, rfl, -⟩ := hOP.shape; have hE6 := hE3.trans hX6; have hE8 := hE6; have kb8 := hb _ hE8; have hE9 := hE8; have wX := w6)
                | (go_at_call 58; refine (cS _ hE8).mono ?_; rintro e w9 ⟨rfl, hX9⟩; have hE9 := hE8.trans hX9; have kb9 := hb _ hE9; have kq := fun U => hb _ (hE9.trans (lat_ext w9 U)); have hE := Ext.refl w9)
                | (go_at_call 59; refine (cO _ hE9).mono ?_; rintro e w10 ⟨rfl, hX10⟩; have hE10 := hE9.trans hX10; have kb10 := hb _ hE10; have kq := fun U => hb _ (hE10.trans (lat_ext w10 U)); replace hE := Ext.refl w10))
          (refine wp_region_lat (w10) (by kernel_rfl) (by kernel_rfl) hE ?_); (repeat (go_big_quiet_step (first | (go_at_call 62; with_reducible exact Calls.lat (c3 _ (hE10.trans (lat_ext w10 _)))) | (go_at_call 38; with_reducible exact Calls.lat (c4 _ (hE10.trans (lat_ext w10 _)))) | (go_at_call 61; first | with_reducible exact Calls.lat_same (cY0 _) | with_reducible exact Calls.lat_same (cY1 _))))); (refine wpQuiet_nil ?_); (intro W hE'); (replace hE := lat_of hE'); (clear hE')
          go_wp2_with fail
          go_ret
          exact ⟨ret_str (by rw [Hs.out, Hy0.out, Hy1.out, Hb2.out]; rfl), hE0.trans (hE10.trans hE)⟩
      · have Hb2 : Hid (b2 = false) := Lib.hid (by rw [Hfb.out, decide_eq_false h7]; rfl)
        have h7I : ¬ ((on : Nat) : Int) ≤ 7 := by omega
        clear h7
        go_wp2_with (first
              | (go_at_call 56; refine (cZ _ hE3).mono ?_; rintro e w6 ⟨p, rfl, hOP, hX6⟩; obtain ⟨aoP, cP, rfl, -⟩ := hOP.shape; have hE6 := hE3.trans hX6; have hE8 := hE6; have kb8 := hb _ hE8; have hE9 := hE8; have wX := w6)
              | (go_at_call 58; refine (cS _ hE8).mono ?_; rintro e w9 ⟨rfl, hX9⟩; have hE9 := hE8.trans hX9; have kb9 := hb _ hE9; have kq := fun U => hb _ (hE9.trans (lat_ext w9 U)); have hE := Ext.refl w9)
              | (go_at_call 59; refine (cO _ hE9).mono ?_; rintro e w10 ⟨rfl, hX10⟩; have hE10 := hE9.trans hX10; have kb10 := hb _ hE10; have kq := fun U => hb _ (hE10.trans (lat_ext w10 U)); replace hE := Ext.refl w10))
        (refine wp_region_lat (w10) (by kernel_rfl) (by kernel_rfl) hE ?_); (repeat (go_big_quiet_step (first | (go_at_call 62; with_reducible exact Calls.lat (c3 _ (hE10.trans (lat_ext w10 _)))) | (go_at_call 38; with_reducible exact Calls.lat (c4 _ (hE10.trans (lat_ext w10 _)))) | (go_at_call 61; first | with_reducible exact Calls.lat_same (cY0 _) | with_reducible exact Calls.lat_same (cY1 _))))); (refine wpQuiet_nil ?_); (intro W hE'); (replace hE := lat_of hE'); (clear hE')
        go_wp2_with fail
        go_ret
        exact ⟨ret_str (by rw [Hs.out, Hy0.out, Hy1.out, Hb2.out]; rfl), hE0.trans (hE10.trans hE)⟩
  · have Hfb := Lib.hid hfb
    clear hfb
    rcases zb with _ | _
    · have Hb2 : Hid (b2 = false) := Lib.hid (by rw [Hfb.out]; simp)
      go_wp2_with (first
            | (go_at_call 56; refine (cZ _ hE3).mono ?_; rintro e w6 ⟨p, rfl, hOP, hX6⟩; obtain ⟨aoP, cP, rfl, -⟩ := hOP.shape; have hE6 := hE3.trans hX6)
            | (go_at_call 57; with_reducible refine Calls.mono (cD _ _ hOP.ints) ?_; rintro e w8 ⟨rfl, hX8⟩; have hE8 := hE6.trans hX8; have kb8 := hb _ hE8)
            | (go_at_call 58; refine (cS _ hE8).mono ?_; rintro e w9 ⟨rfl, hX9⟩; have hE9 := hE8.trans hX9; have kb9 := hb _ hE9; have kq := fun U => hb _ (hE9.trans (lat_ext w9 U)); have hE := Ext.refl w9))
      (refine wp_region_lat (w9) (by kernel_rfl) (by kernel_rfl) hE ?_); (repeat (go_big_quiet_step (first | (go_at_call 62; with_reducible exact Calls.lat (c3 _ (hE9.trans (lat_ext w9 _)))) | (go_at_call 38; with_reducible exact Calls.lat (c4 _ (hE9.trans (lat_ext w9 _)))) | (go_at_call 61; first | with_reducible exact Calls.lat_same (cY0 _) | with_reducible exact Calls.lat_same (cY1 _))))); (refine wpQuiet_nil ?_); (intro W hE'); (replace hE := lat_of hE'); (clear hE')
      go_wp2_with fail
      go_ret
      exact ⟨ret_str (by rw [Hs.out, Hy0.out, Hy1.out, Hb2.out]; rfl), hE0.trans (hE9.trans hE)⟩
    · by_cases h7 : on ≤ 7
      · by_cases h10 : X.length ≤ 10
        · have Hb2 : Hid (b2 = true) := Lib.hid (by rw [Hfb.out, decide_eq_true h7, decide_eq_true h10]; rfl)
          have h7I : ((on : Nat) : Int) ≤ 7 := by omega
          have h10I : ((X.length : Nat) : Int) ≤ 10 := by omega
          clear h7
          clear h10
          go_wp2_with (first
                | (go_at_call 56; refine (cZ _ hE3).mono ?_; rintro e w6 ⟨p, rfl, hOP, hX6⟩; obtain ⟨aoP, cP, rfl, -⟩ := hOP.shape; have hE6 := hE3.trans hX6)
                | (go_at_call 57; with_reducible refine Calls.mono (cD _ _ hOP.ints) ?_; rintro e w8 ⟨rfl, hX8⟩; have hE8 := hE6.trans hX8; have kb8 := hb _ hE8)
                | (go_at_call 58; refine (cS _ hE8).mono ?_; rintro e w9 ⟨rfl, hX9⟩; have hE9 := hE8.trans hX9; have kb9 := hb _ hE9; have kq := fun U => hb _ (hE9.trans (lat_ext w9 U)); have hE := Ext.refl w9)
                | (go_at_call 59; refine (cO _ hE9).mono ?_; rintro e w10 ⟨rfl, hX10⟩; have hE10 := hE9.trans hX10; have kb10 := hb _ hE10; have kq := fun U => hb _ (hE10.trans (lat_ext w10 U)); replace hE := Ext.refl w10)
                | (go_at_call 60; refine (cL _ hE10).mono ?_; rintro e w11 ⟨⟨vL, rfl, hOL⟩, hX11⟩; obtain ⟨aoL, cLv, rfl, -⟩ := hOL.shape; have hE11 := hE10.trans hX11)
                | (go_at_call 57; with_reducible refine Calls.mono (cE _ _ hOL.ints) ?_; rintro e w12 ⟨rfl, hX12⟩; have hE12 := hE11.trans hX12; have kb12 := hb _ hE12; have kq := fun U => hb _ (hE12.trans (lat_ext w12 U)); replace hE := Ext.refl w12))
          (refine wp_region_lat (w12) (by kernel_rfl) (by kernel_rfl) hE ?_); (repeat (go_big_quiet_step (first | (go_at_call 62; with_reducible exact Calls.lat (c3 _ (hE12.trans (lat_ext w12 _)))) | (go_at_call 38; with_reducible exact Calls.lat (c4 _ (hE12.trans (lat_ext w12 _)))) | (go_at_call 61; first | with_reducible exact Calls.lat_same (cY0 _) | with_reducible exact Calls.lat_same (cY1 _))))); (refine wpQuiet_nil ?_); (intro W hE'); (replace hE := lat_of hE'); (clear hE')
          go_wp2_with fail
          go_ret
          exact ⟨ret_str (by rw [Hs.out, Hy0.out, Hy1.out, Hb2.out]; rfl), hE0.trans (hE12.trans hE)⟩
        · have Hb2 : Hid (b2 = false) := Lib.hid (by rw [Hfb.out, decide_eq_false h10]; simp)
          have h7I : ((on : Nat) : Int) ≤ 7 := by omega
          have h10I : ¬ ((X.length : Nat) : Int) ≤ 10 := by omega
          clear h7
          clear h10
          go_wp2_with (first
                | (go_at_call 56; refine (cZ _ hE3).mono ?_; rintro e w6 ⟨p, rfl, hOP, hX6⟩; obtain ⟨aoP, cP, rfl, -⟩ := hOP.shape; have hE6 := hE3.trans hX6)
                | (go_at_call 57; with_reducible refine Calls.mono (cD _ _ hOP.ints) ?_; rintro e w8 ⟨rfl, hX8⟩; have hE8 := hE6.trans hX8; have kb8 := hb _ hE8)
                | (go_at_call 58; refine (cS _ hE8).mono ?_; rintro e w9 ⟨rfl, hX9⟩; have hE9 := hE8.trans hX9; have kb9 := hb _ hE9; have kq := fun U => hb _ (hE9.trans (lat_ext w9 U)); have hE := Ext.refl w9)
                | (go_at_call 59; refine (cO _ hE9).mono ?_; rintro e w10 ⟨rfl, hX10⟩; have hE10 := hE9.trans hX10; have kb10 := hb _ hE10; have kq := fun U => hb _ (hE10.trans (lat_ext w10 U)); replace hE := Ext.refl w10))
          (refine wp_region_lat (w10) (by kernel_rfl) (by kernel_rfl) hE ?_); (repeat (go_big_quiet_step (first | (go_at_call 62; with_reducible exact Calls.lat (c3 _ (hE10.trans (lat_ext w10 _)))) | (go_at_call 38; with_reducible exact Calls.lat (c4 _ (hE10.trans (lat_ext w10 _)))) | (go_at_call 61; first | with_reducible exact Calls.lat_same (cY0 _) | with_reducible exact Calls.lat_same (cY1 _))))); (refine wpQuiet_nil ?_); (intro W hE'); (replace hE := lat_of hE'); (clear hE')
          go_wp2_with fail
          go_ret
          exact ⟨ret_str (by rw [Hs.out, Hy0.out, Hy1.out, Hb2.out]; rfl), hE0.trans (hE10.trans hE)⟩
      · have Hb2 : Hid (b2 = false) := Lib.hid (by rw [Hfb.out, decide_eq_false h7]; rfl)
        have h7I : ¬ ((on : Nat) : Int) ≤ 7 := by omega
        clear h7
        go_wp2_with (first
              | (go_at_call 56; refine (cZ _ hE3).mono ?_; rintro e w6 ⟨p, rfl, hOP, hX6⟩; obtain ⟨aoP, cP, rfl, -⟩ := hOP.shape; have hE6 := hE3.trans hX6)
              | (go_at_call 57; with_reducible refine Calls.mono (cD _ _ hOP.ints) ?_; rintro e w8 ⟨rfl, hX8⟩; have hE8 := hE6.trans hX8; have kb8 := hb _ hE8)
              | (go_at_call 58; refine (cS _ hE8).mono ?_; rintro e w9 ⟨rfl, hX9⟩; have hE9 := hE8.trans hX9; have kb9 := hb _ hE9; have kq := fun U => hb _ (hE9.trans (lat_ext w9 U)); have hE := Ext.refl w9)
              | (go_at_call 59; refine (cO _ hE9).mono ?_; rintro e w10 ⟨rfl, hX10⟩; have hE10 := hE9.trans hX10; have kb10 := hb _ hE10; have kq := fun U => hb _ (hE10.trans (lat_ext w10 U)); replace hE := Ext.refl w10))
        (refine wp_region_lat (w10) (by kernel_rfl) (by kernel_rfl) hE ?_); (repeat (go_big_quiet_step (first | (go_at_call 62; with_reducible exact Calls.lat (c3 _ (hE10.trans (lat_ext w10 _)))) | (go_at_call 38; with_reducible exact Calls.lat (c4 _ (hE10.trans (lat_ext w10 _)))) | (go_at_call 61; first | with_reducible exact Calls.lat_same (cY0 _) | with_reducible exact Calls.lat_same (cY1 _))))); (refine wpQuiet_nil ?_); (intro W hE'); (replace hE := lat_of hE'); (clear hE')
        go_wp2_with fail
        go_ret
        exact ⟨ret_str (by rw [Hs.out, Hy0.out, Hy1.out, Hb2.out]; rfl), hE0.trans (hE10.trans hE)⟩
end Go.Zz
