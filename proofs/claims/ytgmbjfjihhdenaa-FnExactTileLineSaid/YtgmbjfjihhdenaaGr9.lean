/- ListOf of both. -/
import Derived.Test.YtgmbjfjihhdenaaGr3
import Derived.Test.YtgmbjfjihhdenaaGr4
import Derived.Test.YtgmbjfjihhdenaaGr8
import Derived.Deep.RegionHeld3
namespace Go.Zz
open Go.RowKit Go.Proofs
set_option maxHeartbeats 400000
set_option maxRecDepth 4000

def loF (l : List Int) (a : Int) : List Int := if isSetB l a then castL (elems a.toNat) else []
theorem loF_no {l : List Int} {a : Int} (h : isSetB l a = false) : loF l a = [] := by unfold loF; rw [h]; rfl
theorem loF_nat {l : List Int} {n : Nat} (h : isSetB l n = true) : loF l n = castL (elems n) := by unfold loF; rw [h]; rfl
theorem sListOf_any (v : Value) (l : List Int) (a : Int) (w : World) (h : Ints w v l) :
    Calls Try.prog 192 #[.agg #[v], .int .i64 a] w fun e w' => ∃ u, e = .returned u ∧ Own 3 w w' u (loF l a) ∧ Ext w w' := by
  have hE0 := (Ext.refl w).alloc (.cells #[v] 31)
  have hE := Ext.refl (w.alloc (.cells #[v] 31))
  have hb := box_cell w v 31
  have hg : ∀ W, Ext (w.alloc (.cells #[v] 31)) W → Ints W v l := fun W hW => h.ext (hE0.trans hW)
  clear h
  cases hs : isSetB l a
  · have He := Lib.hid (loF_no hs)
    go_enter Try.func192, Try.ntmps192
    go_wp2_with (first | (go_at_call 141; refine (sIsSet_any _ _ _ _ (hg _ hE)).mono ?_; rintro e w' ⟨rfl, hE'⟩; replace hE := hE.trans hE'; clear hE'))
    go_ret
    have hE2 := hE0.trans hE
    exact ⟨_, rfl, by rw [He.out]; exact own_made (TI := 3) (n := 0) (by omega) hE2 [] rfl, hE2.alloc _⟩
  · obtain ⟨n, rfl, -, hn, -⟩ := isSetB_nat hs
    have He := Lib.hid (loF_nat hs)
    go_enter Try.func192, Try.ntmps192
    go_wp2_with (first | (go_at_call 141; refine (sIsSet_any _ _ _ _ (hg _ hE)).mono ?_; rintro e w' ⟨rfl, hE'⟩; replace hE := hE.trans hE'; clear hE') | (go_at_call 170; refine (l3List_any _ (hn) _).mono ?_; rintro e w1 ⟨v1, rfl, hL, hE1⟩; obtain ⟨aoL, cL, adrL, rfl, hadrL, hcellL⟩ := hL.ints.nats; have hixL := ints_index (c := cL) elI szI hadrL; clear hadrL))
    go_ret
    have hE2 := hE0.trans hE
    exact ⟨_, rfl, by rw [He.out]; simpa [castL_len] using hL.mono hE2, hE2.trans hE1⟩
end Go.Zz

/- ListOf and FormatSet of the reference. -/
namespace Go.Zz
open Go.RowKit Go.Proofs
set_option maxHeartbeats 400000
set_option maxRecDepth 4000

theorem loF_in (l : List Int) (a : Int) (i : Nat) (h : i < (loF l a).length) : -1 ≤ nth (loF l a) i ∧ nth (loF l a) i < 1000000000000 := by
  cases hs : isSetB l a
  · rw [loF_no hs] at h; simp at h
  · obtain ⟨n, rfl, -, hn, -⟩ := isSetB_nat hs
    rw [loF_nat hs] at h ⊢
    exact elems_in n i h
theorem loF_len (l : List Int) (a : Int) : (loF l a).length ≤ 24 := by
  unfold loF
  split
  · rw [castL_len]; exact elems_len _
  · simp
theorem fsF_lo (l : List Int) (a : Int) : fsF l a = if (loF l a).length = 0 then (if isSetB l a then ⟨#[110, 111, 110, 101]⟩ else ⟨#[]⟩) else jn comma (fun i => fmtB (nth (loF l a) i)) (loF l a).length := by
  cases hs : isSetB l a
  · rw [fsF_no hs, loF_no hs]; rfl
  · unfold fsF loF
    rw [hs]
    show numF _ = _
    unfold numF
    rfl
theorem sFormatSet_any (v : Value) (l : List Int) (a : Int) (w : World) (h : Ints w v l) :
    Calls Try.prog 112 #[.agg #[v], .int .i64 a] w fun e w' => e = .returned (.string (fsF l a)) ∧ Ext w w' := by
  have hE0 := (Ext.refl w).alloc (.cells #[v] 31)
  have hE := Ext.refl (w.alloc (.cells #[v] 31))
  have hb := box_cell w v 31
  have hg : ∀ W, Ext (w.alloc (.cells #[v] 31)) W → Ints W v l := fun W hW => h.ext (hE0.trans hW)
  clear h
  have hin := loF_in l a
  have hlen := loF_len l a
  have Hf := Lib.hid (fsF_lo l a)
  have Hin := Lib.hid hin
  clear hin
  have hc := fun W (hI : Ints W v l) => sListOf_any v l a W hI
  go_enter Try.func112, Try.ntmps112
  go_wp2_with (go_at_call 192; refine (hc _ (hg _ hE)).mono ?_; rintro e w1 ⟨u, rfl, hO, hE1⟩; obtain ⟨aoL, cL, adrL, rfl, hlenL, hadrL, hcellL⟩ := hO.ints.op; have hixL := ints_index (c := cL) elI szI hadrL)
  clear hadrL hO
  obtain ⟨m, hm⟩ : ∃ m, m = loF l a := ⟨_, rfl⟩
  rw [← hm] at hlen hlenL hcellL hixL Hf Hin ⊢
  clear hm
  go_loopw [5, 7] (fun s i wr => ∃ (k : Nat) (t : ByteArray), k ≤ m.length ∧ i = .int .i64 k ∧ s = .string t ∧ Hid (t = jn comma (fun i => fmtB (nth m i)) k) ∧ Ext w1 wr) (fun _ i _ => m.length - (intOf i).toNat)
  case atStart => exact ⟨0, _, by omega, rfl, rfl, Lib.hid rfl, Ext.refl _⟩
  case round =>
    obtain ⟨k, t, hk, rfl, rfl, Ht, hEr⟩ := hrel
    have hts : t.size ≤ 14 * k := by rw [Ht.out]; exact jn_size _ _ (by decide) k fun i hi => fmtB_size (Hin.out i (by omega))
    by_cases hlt : k < m.length
    · have hck := hcellL k _ hlt hEr
      have hcF := sFormatInt_any (nth m k) (Hin.out k hlt)
      have hsz : (fmtB (nth m k)).size ≤ 13 := fmtB_size (Hin.out k hlt)
      obtain ⟨u, hu⟩ : ∃ u, u = fmtB (nth m k) := ⟨_, rfl⟩
      rw [← hu] at hsz hcF
      have He := Lib.hid hu
      clear hu
      by_cases hk0 : 0 < k
      · have hk1 : (0:Int) < k := by omega
        go_wp2_with (refine (hcF _).mono ?_; rintro e w2 ⟨rfl, hE2⟩)
        go_roundw
        case rel => exact ⟨k + 1, _, by omega, by go_num, rfl, Lib.hid (by rw [jn_next _ _ hk0, ← Ht.out, He.out]; rfl), hEr.trans hE2⟩
        case measure => (simp [intOf]; omega)
      · have hk1 : k = 0 := by omega
        subst hk1
        have hix0 : ∀ W, (Instr.indexAt 22 (.slice aoL m.length cL) (.int .i64 0)).run Try.prog W = .ok (.pointer (some (adrL 0))) W := fun W => by simpa using hixL 0 W hlt
        go_wp2_with (refine (hcF _).mono ?_; rintro e w2 ⟨rfl, hE2⟩)
        go_roundw
        case rel => exact ⟨1, _, by omega, rfl, rfl, Lib.hid (by rw [jn_first, He.out, Ht.out]; rfl), hEr.trans hE2⟩
        case measure => (simp [intOf]; omega)
    · have hkl : k = m.length := by omega
      subst hkl
      have hER := (hE0.trans hE1).trans hEr
      have hEb := hE1.trans hEr
      by_cases h0 : m.length = 0
      · have ht0 : t = ⟨#[]⟩ := by rw [Ht.out, h0]; rfl
        subst ht0
        have Hf2 : Hid (fsF l a = if isSetB l a then ⟨#[110, 111, 110, 101]⟩ else ⟨#[]⟩) := Lib.hid (by rw [Hf.out, if_pos h0])
        have hcS := sIsSet_any v l a _ (hg _ hEb)
        clear h0 hts Hf
        cases hs : isSetB l a
        all_goals
          rw [hs] at Hf2 hcS
          go_wp2_with (refine hcS.mono ?_; rintro e w3 ⟨rfl, hE3⟩)
          go_ret
          exact ⟨ret_str Hf2.out.symm, hER.trans hE3⟩
      · have He : Hid (fsF l a = t) := Lib.hid (by rw [Hf.out, if_neg h0, Ht.out])
        have h1 := jn_some comma (fun i => fmtB (nth m i)) m.length (by omega) fun i hi => fmtB_some (Hin.out i hi)
        rw [← Ht.out] at h1
        have ht1 := str_some h1
        go_wp2_with fail
        go_ret
        exact ⟨ret_str He.out.symm, hER⟩
end Go.Zz

/- PairLine of the program and of the reference. -/
namespace Go.Zz
open Go.RowKit Go.Proofs
set_option maxHeartbeats 2000000
set_option maxRecDepth 8000

theorem numF_size {l : List Int} (h : ∀ i, i < l.length → -1 ≤ nth l i ∧ nth l i < 1000000000000) (hl : l.length ≤ 40) : (numF l).size ≤ 560 := by
  unfold numF
  split
  · decide
  · have := jn_size comma (fun i => fmtB (nth l i)) (by decide) l.length fun i hi => fmtB_size (h i hi)
    omega
theorem fsF_size (l : List Int) (a : Int) : (fsF l a).size ≤ 600 := by
  cases h : isSetB l a
  · rw [fsF_no h]; decide
  · obtain ⟨n, rfl, -, hn, -⟩ := isSetB_nat h
    rw [fsF_nat h]
    have := numF_size (l := castL (elems n)) (elems_in n) (by rw [castL_len]; have := elems_len n; omega)
    omega
theorem kcF_size (l : List Int) (a b : Int) : (kcF l a b).size ≤ 20 := by
  unfold kcF
  (repeat' split) <;> decide
def plF (l : List Int) (a b : Int) : ByteArray :=
  if fullB l a b then
    (fun (A B C D E : ByteArray) (dr tl : Bool) => ((((((((((((⟨#[112, 97, 105, 114, 32, 115, 117, 109, 32]⟩ : ByteArray) ++ A) ++ (⟨#[32, 115, 105, 122, 101, 32]⟩ : ByteArray)) ++ B) ++ (⟨#[32, 98, 111, 117, 110, 100, 32]⟩ : ByteArray)) ++ C) ++ (⟨#[32, 99, 97, 115, 101, 32]⟩ : ByteArray)) ++ D) ++ (⟨#[32, 101, 110, 101, 114, 103, 121, 32]⟩ : ByteArray)) ++ E) ++ (if dr then (⟨#[32, 100, 105, 114, 101, 99, 116]⟩ : ByteArray) else ⟨#[]⟩)) ++ (if tl then (⟨#[32, 116, 105, 108, 105, 110, 103]⟩ : ByteArray) else ⟨#[]⟩))) (fsF l (sumF l a.toNat b.toNat : Nat)) (fmtB (cnt (sumF l a.toNat b.toNat) : Int)) (fmtB (knI l a b)) (kcF l a b) (fmtB (enF l a b)) (drF l a b) (tilF l a b)
  else ⟨#[]⟩
theorem pl_no {l : List Int} {a b : Int} (h : fullB l a b = false) : plF l a b = ⟨#[]⟩ := by unfold plF; rw [h]; rfl
theorem pl_yes {l : List Int} {a b : Nat} (h : fullB l a b = true) : plF l a b = (fun (A B C D E : ByteArray) (dr tl : Bool) => ((((((((((((⟨#[112, 97, 105, 114, 32, 115, 117, 109, 32]⟩ : ByteArray) ++ A) ++ (⟨#[32, 115, 105, 122, 101, 32]⟩ : ByteArray)) ++ B) ++ (⟨#[32, 98, 111, 117, 110, 100, 32]⟩ : ByteArray)) ++ C) ++ (⟨#[32, 99, 97, 115, 101, 32]⟩ : ByteArray)) ++ D) ++ (⟨#[32, 101, 110, 101, 114, 103, 121, 32]⟩ : ByteArray)) ++ E) ++ (if dr then (⟨#[32, 100, 105, 114, 101, 99, 116]⟩ : ByteArray) else ⟨#[]⟩)) ++ (if tl then (⟨#[32, 116, 105, 108, 105, 110, 103]⟩ : ByteArray) else ⟨#[]⟩))) (fsF l (sumF l a b : Nat)) (fmtB (cnt (sumF l a b) : Int)) (fmtB (knI l a b)) (kcF l a b) (fmtB (enF l a b)) (drF l a b) (tilF l a b) := by
  unfold plF; rw [if_pos h]; rfl
theorem pl_line (A B C D E : ByteArray) (dr tl : Bool) : (if tl then lineF [(if dr then lineF [lineF [(⟨#[112, 97, 105, 114, 32, 115, 117, 109]⟩ : ByteArray), A, (⟨#[115, 105, 122, 101]⟩ : ByteArray), B, (⟨#[98, 111, 117, 110, 100]⟩ : ByteArray), C, (⟨#[99, 97, 115, 101]⟩ : ByteArray), D, (⟨#[101, 110, 101, 114, 103, 121]⟩ : ByteArray), E], (⟨#[100, 105, 114, 101, 99, 116]⟩ : ByteArray)] else lineF [(⟨#[112, 97, 105, 114, 32, 115, 117, 109]⟩ : ByteArray), A, (⟨#[115, 105, 122, 101]⟩ : ByteArray), B, (⟨#[98, 111, 117, 110, 100]⟩ : ByteArray), C, (⟨#[99, 97, 115, 101]⟩ : ByteArray), D, (⟨#[101, 110, 101, 114, 103, 121]⟩ : ByteArray), E]), (⟨#[116, 105, 108, 105, 110, 103]⟩ : ByteArray)] else (if dr then lineF [lineF [(⟨#[112, 97, 105, 114, 32, 115, 117, 109]⟩ : ByteArray), A, (⟨#[115, 105, 122, 101]⟩ : ByteArray), B, (⟨#[98, 111, 117, 110, 100]⟩ : ByteArray), C, (⟨#[99, 97, 115, 101]⟩ : ByteArray), D, (⟨#[101, 110, 101, 114, 103, 121]⟩ : ByteArray), E], (⟨#[100, 105, 114, 101, 99, 116]⟩ : ByteArray)] else lineF [(⟨#[112, 97, 105, 114, 32, 115, 117, 109]⟩ : ByteArray), A, (⟨#[115, 105, 122, 101]⟩ : ByteArray), B, (⟨#[98, 111, 117, 110, 100]⟩ : ByteArray), C, (⟨#[99, 97, 115, 101]⟩ : ByteArray), D, (⟨#[101, 110, 101, 114, 103, 121]⟩ : ByteArray), E])) = ((((((((((((⟨#[112, 97, 105, 114, 32, 115, 117, 109, 32]⟩ : ByteArray) ++ A) ++ (⟨#[32, 115, 105, 122, 101, 32]⟩ : ByteArray)) ++ B) ++ (⟨#[32, 98, 111, 117, 110, 100, 32]⟩ : ByteArray)) ++ C) ++ (⟨#[32, 99, 97, 115, 101, 32]⟩ : ByteArray)) ++ D) ++ (⟨#[32, 101, 110, 101, 114, 103, 121, 32]⟩ : ByteArray)) ++ E) ++ (if dr then (⟨#[32, 100, 105, 114, 101, 99, 116]⟩ : ByteArray) else ⟨#[]⟩)) ++ (if tl then (⟨#[32, 116, 105, 108, 105, 110, 103]⟩ : ByteArray) else ⟨#[]⟩)) := by
  apply bytes_ext
  cases dr <;> cases tl <;> simp [lineF, jn, nthS, spB, List.getD]
end Go.Zz
