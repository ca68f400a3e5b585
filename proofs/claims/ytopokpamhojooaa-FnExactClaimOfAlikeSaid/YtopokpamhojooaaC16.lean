/- Coverings (the reference), small doubling, sizes of intersections. -/
import Derived.Test.YtopokpamhojooaaC15
namespace Go.Zz
open Go.RowKit Go.Proofs
set_option maxHeartbeats 400000
--%call IsSetV 109 ext IsSet_val _ _ _ _ ({0}) ({1})
theorem IsSet_val (v : Value) (l : List Int) (a : Int) (w : World) (h : Ints w v l) {b : Bool} (hb : isSetB l a = b) :
    Calls Try.prog 109 #[.agg #[v], .int .i64 a] w fun e w' => e = .returned (.bool b) ∧ Ext w w' := by
  subst hb; exact IsSet_any v l a w h
--%call sIsSetV 107 ext sIsSet_val _ _ _ _ ({0}) ({1})
theorem sIsSet_val (v : Value) (l : List Int) (a : Int) (w : World) (h : Ints w v l) {b : Bool} (hb : isSetB l a = b) :
    Calls Try.prog 107 #[.agg #[v], .int .i64 a] w fun e w' => e = .returned (.bool b) ∧ Ext w w' := by
  subst hb; exact sIsSet_any v l a w h




/-- whether twice the size of a + a is less than three times that of a -/
def smallF (l : List Int) (a : Int) : Bool := isSetB l a && decide (a ≠ 0) && decide (2 * cnt (sumF l a.toNat a.toNat) < 3 * cnt a.toNat)
theorem smallF_no {l : List Int} {a : Int} (h : isSetB l a = false) : smallF l a = false := by unfold smallF; rw [h]; rfl
theorem smallF_zero (l : List Int) : smallF l 0 = false := by unfold smallF; simp
theorem smallF_yes {l : List Int} {n : Nat} (h : isSetB l n = true) (h0 : 0 < n) : smallF l n = decide (2 * (cnt (sumF l n n) : Int) < 3 * (cnt n : Int)) := by
  unfold smallF
  rw [h, Bool.eq_iff_iff]
  simp
  omega
--%call IsSmallDoubling 92 ext IsSmallDoubling_any _ _ _ _ ({0})
theorem IsSmallDoubling_any (v : Value) (l : List Int) (a : Int) (w : World) (h : Ints w v l) :
    Calls Try.prog 92 #[.agg #[v], .int .i64 a] w fun e w' => e = .returned (.bool (smallF l a)) ∧ Ext w w' := by
  have hE0 := (Ext.refl w).alloc (.cells #[v] 30)
  have hE := Ext.refl (w.alloc (.cells #[v] 30))
  have hb := box_cell w v 30
  have hg : ∀ W, Ext (w.alloc (.cells #[v] 30)) W → Ints W v l := fun W hW => h.ext (hE0.trans hW)
  clear h
  cases hs : isSetB l a
  · have Hs := Lib.hid (smallF_no hs)
    go_enter Try.func92, Try.ntmps92
    go_wp2_with (first | (go_at_call 109; refine (IsSet_any _ _ _ _ (hg _ hE)).mono ?_; rintro e w' ⟨rfl, hE'⟩; replace hE := hE.trans hE'; clear hE'))
    go_ret
    exact ⟨ret_bool Hs.out.symm, hE0.trans hE⟩
  · obtain ⟨n, rfl, h1, h2, h3⟩ := isSetB_nat hs
    by_cases h0 : n = 0
    · subst h0
      go_enter Try.func92, Try.ntmps92
      go_wp2_with (first | (go_at_call 109; refine (IsSet_any _ _ _ _ (hg _ hE)).mono ?_; rintro e w' ⟨rfl, hE'⟩; replace hE := hE.trans hE'; clear hE'))
      go_ret
      exact ⟨ret_bool (smallF_zero l).symm, hE0.trans hE⟩
    · have h0' : ((n : Int) != 0) = true := by simp; omega
      have h0'' : 0 < (n : Int) := by omega
      have hm := Lib.hid (smallF_yes hs (by omega))
      have c1 := cnt_le (sumF l n n)
      have c2 := cnt_le n
      have h4 := sumF_bd h3 n n
      have h3' := Lib.hid h3
      clear h3
      go_enter Try.func92, Try.ntmps92
      go_wp2_with (first | (go_at_call 109; refine (IsSet_any _ _ _ _ (hg _ hE)).mono ?_; rintro e w' ⟨rfl, hE'⟩; replace hE := hE.trans hE'; clear hE') | (go_at_call 82; refine (sum_any _ _ _ _ _ (hg _ hE) (h3') (h2) (h2)).mono ?_; rintro e w' ⟨rfl, hE'⟩; replace hE := hE.trans hE'; clear hE') | (go_at_call 95; first | (with_reducible refine (bits_any _ h4 _).mono ?_; rintro e w' ⟨rfl, rfl⟩) | (with_reducible refine (bits_any _ h2 _).mono ?_; rintro e w' ⟨rfl, rfl⟩)))
      go_ret
      exact ⟨ret_bool hm.out.symm, hE0.trans hE⟩
--%call sIsSmallDoubling 77 ext sIsSmallDoubling_any _ _ _ _ ({0})
theorem sIsSmallDoubling_any (v : Value) (l : List Int) (a : Int) (w : World) (h : Ints w v l) :
    Calls Try.prog 77 #[.agg #[v], .int .i64 a] w fun e w' => e = .returned (.bool (smallF l a)) ∧ Ext w w' := by
  have hE0 := (Ext.refl w).alloc (.cells #[v] 30)
  have hE := Ext.refl (w.alloc (.cells #[v] 30))
  have hb := box_cell w v 30
  have hg : ∀ W, Ext (w.alloc (.cells #[v] 30)) W → Ints W v l := fun W hW => h.ext (hE0.trans hW)
  clear h
  cases hs : isSetB l a
  · have Hs := Lib.hid (smallF_no hs)
    go_enter Try.func77, Try.ntmps77
    go_wp2_with (first | (go_at_call 107; refine (sIsSet_any _ _ _ _ (hg _ hE)).mono ?_; rintro e w' ⟨rfl, hE'⟩; replace hE := hE.trans hE'; clear hE'))
    go_ret
    exact ⟨ret_bool Hs.out.symm, hE0.trans hE⟩
  · obtain ⟨n, rfl, h1, h2, h3⟩ := isSetB_nat hs
    by_cases h0 : n = 0
    · subst h0
      go_enter Try.func77, Try.ntmps77
      go_wp2_with (first | (go_at_call 107; refine (sIsSet_any _ _ _ _ (hg _ hE)).mono ?_; rintro e w' ⟨rfl, hE'⟩; replace hE := hE.trans hE'; clear hE'))
      go_ret
      exact ⟨ret_bool (smallF_zero l).symm, hE0.trans hE⟩
    · have h0' : ((n : Int) != 0) = true := by simp; omega
      have h0'' : 0 < (n : Int) := by omega
      have hm := Lib.hid (smallF_yes hs (by omega))
      have c1 := cnt_le (sumF l n n)
      have c2 := cnt_le n
      have h4 := sumF_bd h3 n n
      have h3' := Lib.hid h3
      clear h3
      go_enter Try.func77, Try.ntmps77
      go_wp2_with (first | (go_at_call 107; refine (sIsSet_any _ _ _ _ (hg _ hE)).mono ?_; rintro e w' ⟨rfl, hE'⟩; replace hE := hE.trans hE'; clear hE') | (go_at_call 67; refine (l4Sum_any _ _ _ _ _ (hg _ hE) (h3') (h2) (h2)).mono ?_; rintro e w' ⟨rfl, hE'⟩; replace hE := hE.trans hE'; clear hE') | (go_at_call 80; first | (with_reducible refine (l3Bits_any _ h4 _).mono ?_; rintro e w' ⟨rfl, rfl⟩) | (with_reducible refine (l3Bits_any _ h2 _).mono ?_; rintro e w' ⟨rfl, rfl⟩)))
      go_ret
      exact ⟨ret_bool hm.out.symm, hE0.trans hE⟩

/-- the sizes of the intersections of a with the shifts of b -/
def interTo (l : List Int) (a b k : Nat) : List Int := castL ((List.range k).map (fun x => cnt (a &&& shiftF l b x)))
def interF (l : List Int) (a b : Int) : List Int := if isSetB l a && isSetB l b then interTo l a.toNat b.toNat (ord l) else []
theorem interTo_zero (l : List Int) (a b : Nat) : interTo l a b 0 = [] := rfl
theorem interTo_succ (l : List Int) (a b k : Nat) : interTo l a b (k + 1) = interTo l a b k ++ [(cnt (a &&& shiftF l b k) : Int)] := by
  unfold interTo; rw [List.range_succ, List.map_append]; exact castL_snoc _ _
theorem interTo_len (l : List Int) (a b k : Nat) : (interTo l a b k).length = k := by simp [interTo, castL]
theorem interF_no {l : List Int} {a b : Int} (h : (isSetB l a && isSetB l b) = false) : interF l a b = [] := by unfold interF; rw [h]; rfl
theorem interF_yes {l : List Int} {a b : Nat} (h : (isSetB l a && isSetB l b) = true) : interF l a b = interTo l a b (ord l) := by unfold interF; rw [h]; rfl
end Go.Zz
