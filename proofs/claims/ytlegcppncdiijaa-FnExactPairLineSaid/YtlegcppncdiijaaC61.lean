/- FormatSet of the program. -/
import Derived.Test.YtlegcppncdiijaaC60
import Derived.Test.YtlegcppncdiijaaC14
namespace Go.Zz
open Go.RowKit Go.Proofs
set_option maxHeartbeats 400000
set_option maxRecDepth 4000

def fsF (l : List Int) (a : Int) : ByteArray := if isSetB l a then numF (castL (elems a.toNat)) else ⟨#[]⟩
theorem fsF_no {l : List Int} {a : Int} (h : isSetB l a = false) : fsF l a = ⟨#[]⟩ := by unfold fsF; rw [h]; rfl
theorem fsF_nat {l : List Int} {n : Nat} (h : isSetB l n = true) : fsF l n = numF (castL (elems n)) := by unfold fsF; rw [h]; rfl
theorem elems_in (n i : Nat) (h : i < (castL (elems n)).length) : -1 ≤ nth (castL (elems n)) i ∧ nth (castL (elems n)) i < 1000000000000 := by
  rw [castL_len] at h
  have e : nth (castL (elems n)) i = ((elems n)[i] : Int) := by simp [nth, castL, List.getD, h]
  have := elems_lt (List.getElem_mem h)
  rw [e]; omega
--%call FormatSet 105 ext FormatSet_any _ _ _ _ ({0})
theorem FormatSet_any (v : Value) (l : List Int) (a : Int) (w : World) (h : Ints w v l) :
    Calls Try.prog 105 #[.agg #[v], .int .i64 a] w fun e w' => e = .returned (.string (fsF l a)) ∧ Ext w w' := by
  have hE0 := (Ext.refl w).alloc (.cells #[v] 27)
  have hE := Ext.refl (w.alloc (.cells #[v] 27))
  have hb := box_cell w v 27
  have hg : ∀ W, Ext (w.alloc (.cells #[v] 27)) W → Ints W v l := fun W hW => h.ext (hE0.trans hW)
  clear h
  cases hs : isSetB l a
  · have He := Lib.hid (fsF_no hs)
    go_enter Try.func105, Try.ntmps105
    go_wp2_with (first | (go_at_call 156; refine (IsSet_any _ _ _ _ (hg _ hE)).mono ?_; rintro e w' ⟨rfl, hE'⟩; replace hE := hE.trans hE'; clear hE'))
    go_ret
    exact ⟨ret_str He.out.symm, hE0.trans hE⟩
  · obtain ⟨n, rfl, -, hn, -⟩ := isSetB_nat hs
    have He := Lib.hid (fsF_nat hs)
    have hc := fun v W (hI : Ints W v (castL (elems n))) => numbers_any v (castL (elems n)) W hI (elems_in n) (by rw [castL_len]; have := elems_len n; omega)
    go_enter Try.func105, Try.ntmps105
    go_wp2_with (first | (go_at_call 156; refine (IsSet_any _ _ _ _ (hg _ hE)).mono ?_; rintro e w' ⟨rfl, hE'⟩; replace hE := hE.trans hE'; clear hE') | (go_at_call 184; refine (members_any _ (hn) _).mono ?_; rintro e w1 ⟨v1, rfl, hL, hE1⟩; obtain ⟨aoL, cL, adrL, rfl, hadrL, hcellL⟩ := hL.ints.nats; have hixL := ints_index (c := cL) elI szI hadrL; clear hadrL) | (go_at_call 199; refine (hc _ _ hL.ints).mono ?_; rintro e w2 ⟨rfl, hE2⟩))
    go_ret
    exact ⟨ret_str He.out.symm, ((hE0.trans hE).trans hE1).trans hE2⟩
end Go.Zz
