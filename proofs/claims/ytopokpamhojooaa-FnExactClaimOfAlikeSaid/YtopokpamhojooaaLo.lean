/- ListOf of both. -/
import Derived.Test.YtopokpamhojooaaC10
import Derived.Test.YtopokpamhojooaaC16
namespace Go.Zz
open Go.RowKit Go.Proofs
set_option maxHeartbeats 400000
set_option maxRecDepth 4000

def loF (l : List Int) (a : Int) : List Int := if isSetB l a then castL (elems a.toNat) else []
theorem loF_no {l : List Int} {a : Int} (h : isSetB l a = false) : loF l a = [] := by unfold loF; rw [h]; rfl
theorem loF_nat {l : List Int} {n : Nat} (h : isSetB l n = true) : loF l n = castL (elems n) := by unfold loF; rw [h]; rfl
theorem sListOf_any (v : Value) (l : List Int) (a : Int) (w : World) (h : Ints w v l) :
    Calls Try.prog 118 #[.agg #[v], .int .i64 a] w fun e w' => ∃ u, e = .returned u ∧ Own 3 w w' u (loF l a) ∧ Ext w w' := by
  have hE0 := (Ext.refl w).alloc (.cells #[v] 30)
  have hE := Ext.refl (w.alloc (.cells #[v] 30))
  have hb := box_cell w v 30
  have hg : ∀ W, Ext (w.alloc (.cells #[v] 30)) W → Ints W v l := fun W hW => h.ext (hE0.trans hW)
  clear h
  cases hs : isSetB l a
  · have He := Lib.hid (loF_no hs)
    go_enter Try.func118, Try.ntmps118
    go_wp2_with (first | (go_at_call 107; refine (sIsSet_any _ _ _ _ (hg _ hE)).mono ?_; rintro e w' ⟨rfl, hE'⟩; replace hE := hE.trans hE'; clear hE'))
    go_ret
    have hE2 := hE0.trans hE
    exact ⟨_, rfl, by rw [He.out]; exact own_made (TI := 3) (n := 0) (by omega) hE2 [] rfl, hE2.alloc _⟩
  · obtain ⟨n, rfl, -, hn, -⟩ := isSetB_nat hs
    have He := Lib.hid (loF_nat hs)
    go_enter Try.func118, Try.ntmps118
    go_wp2_with (first | (go_at_call 107; refine (sIsSet_any _ _ _ _ (hg _ hE)).mono ?_; rintro e w' ⟨rfl, hE'⟩; replace hE := hE.trans hE'; clear hE') | (go_at_call 43; refine (l3List_any _ (hn) _).mono ?_; rintro e w1 ⟨v1, rfl, hL, hE1⟩; obtain ⟨aoL, cL, adrL, rfl, hadrL, hcellL⟩ := hL.ints.nats; have hixL := ints_index (c := cL) elI szI hadrL; clear hadrL))
    go_ret
    have hE2 := hE0.trans hE
    exact ⟨_, rfl, by rw [He.out]; simpa [castL_len] using hL.mono hE2, hE2.trans hE1⟩
theorem ListOf_any (v : Value) (l : List Int) (a : Int) (w : World) (h : Ints w v l) :
    Calls Try.prog 46 #[.agg #[v], .int .i64 a] w fun e w' => ∃ u, e = .returned u ∧ Own 3 w w' u (loF l a) ∧ Ext w w' := by
  have hE0 := (Ext.refl w).alloc (.cells #[v] 30)
  have hE := Ext.refl (w.alloc (.cells #[v] 30))
  have hb := box_cell w v 30
  have hg : ∀ W, Ext (w.alloc (.cells #[v] 30)) W → Ints W v l := fun W hW => h.ext (hE0.trans hW)
  clear h
  cases hs : isSetB l a
  · have He := Lib.hid (loF_no hs)
    go_enter Try.func46, Try.ntmps46
    go_wp2_with (first | (go_at_call 109; refine (IsSet_any _ _ _ _ (hg _ hE)).mono ?_; rintro e w' ⟨rfl, hE'⟩; replace hE := hE.trans hE'; clear hE'))
    go_ret
    have hE2 := hE0.trans hE
    exact ⟨_, rfl, by rw [He.out]; exact own_made (TI := 3) (n := 0) (by omega) hE2 [] rfl, hE2.alloc _⟩
  · obtain ⟨n, rfl, -, hn, -⟩ := isSetB_nat hs
    have He := Lib.hid (loF_nat hs)
    go_enter Try.func46, Try.ntmps46
    go_wp2_with (first | (go_at_call 109; refine (IsSet_any _ _ _ _ (hg _ hE)).mono ?_; rintro e w' ⟨rfl, hE'⟩; replace hE := hE.trans hE'; clear hE') | (go_at_call 105; refine (members_any _ (hn) _).mono ?_; rintro e w1 ⟨v1, rfl, hL, hE1⟩; obtain ⟨aoL, cL, adrL, rfl, hadrL, hcellL⟩ := hL.ints.nats; have hixL := ints_index (c := cL) elI szI hadrL; clear hadrL))
    go_ret
    have hE2 := hE0.trans hE
    exact ⟨_, rfl, by rw [He.out]; simpa [castL_len] using hL.mono hE2, hE2.trans hE1⟩
end Go.Zz
