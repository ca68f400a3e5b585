/- Small functions of the law on Cayley graphs: boundaries, independent sets, sums of elements, full sets, differences. -/
import Derived.Test.YtgjomoedgmofbaaCs
import Derived.Test.YtgjomoedgmofbaaPy
namespace Go.Zz
open Go.RowKit Go.Proofs
set_option maxHeartbeats 2000000
set_option maxRecDepth 8000

def bdF (l : List Int) (a x : Int) : Int := if connB l a && isSetB l x then (bdN l a.toNat x.toNat : Int) else -1
theorem bdF_no {l : List Int} {a x : Int} (h : (connB l a && isSetB l x) = false) : bdF l a x = -1 := by unfold bdF; rw [h]; rfl
theorem bdF_yes {l : List Int} {a x : Nat} (h : (connB l a && isSetB l x) = true) : bdF l a x = (bdN l a x : Nat) := by unfold bdF; rw [if_pos h]; rfl
def indB (l : List Int) (a x : Int) : Bool := connB l a && isSetB l x && decide (sumF l x.toNat a.toNat &&& x.toNat = 0)
theorem indB_no {l : List Int} {a x : Int} (h : (connB l a && isSetB l x) = false) : indB l a x = false := by unfold indB; rw [h]; rfl
theorem indB_yes {l : List Int} {a x : Nat} (h : (connB l a && isSetB l x) = true) : indB l a x = decide (sumF l x a &&& x = 0) := by unfold indB; rw [h]; rfl
theorem and_zero {a b : Nat} : a &&& b = 0 ↔ ∀ i, a.testBit i = true → b.testBit i = false := by
  constructor
  · intro h i hi
    have := congrArg (fun n => n.testBit i) h
    simp only [Nat.testBit_and, Nat.zero_testBit, hi, Bool.true_and] at this
    exact this
  · intro h
    refine Nat.eq_of_testBit_eq fun i => ?_
    rw [Nat.testBit_and, Nat.zero_testBit]
    cases ha : a.testBit i
    · rfl
    · rw [h i ha]; rfl
theorem ind_diff {l : List Int} (hg : isGrp l = true) {a x : Nat} (hx : x < 2 ^ ord l) (ha : a < 2 ^ ord l) : sumF l x (oppF l x) &&& a = 0 ↔ sumF l x a &&& x = 0 := by
  have hO := isGrp_ords hg
  have hob := ord_bd hg
  rw [and_zero, and_zero]
  constructor
  · intro h i hi
    obtain ⟨u, s, hu, hu2, hs, hs2, rfl⟩ := testBit_sumF.1 hi
    cases hb : x.testBit (addF l u s)
    · rfl
    · have h1 := h (addF l (addF l u s) (negF l u)) (testBit_sumF.2 ⟨_, _, addF_bd hg _ _, hb, negF_bd hg u, testBit_oppF.2 ⟨u, hu, hu2, rfl⟩, rfl⟩)
      have h2 : addF l (addF l u s) (negF l u) = s := by
        rw [addF_comm l u s, addF_assoc l hO, addF_neg l hO, addF_zero' hO (bit_lt ha hs2)]
      rw [h2, hs2] at h1; cases h1
  · intro h i hi
    obtain ⟨u, z, hu, hu2, hz, hz2, rfl⟩ := testBit_sumF.1 hi
    obtain ⟨y, hy, hy2, rfl⟩ := testBit_oppF.1 hz2
    cases hb : a.testBit (addF l u (negF l y))
    · rfl
    · have h1 := h u (testBit_sumF.2 ⟨y, _, hy, hy2, addF_bd hg _ _, hb, add_sub hO (bit_lt hx hu2)⟩)
      rw [hu2] at h1; cases h1
theorem BoundaryOf_any (v : Value) (l : List Int) (a x : Int) (w : World) (h : Ints w v l) :
    Calls Try.prog 85 #[.agg #[v], .int .i64 a, .int .i64 x] w fun e w' => e = .returned (.int .i64 (bdF l a x)) ∧ Ext w w' := by
  by_cases hyes : (connB l a && isSetB l x) = true
  · have hp := hyes
    rw [Bool.and_eq_true] at hp
    obtain ⟨a, rfl, -⟩ := connB_nat hp.1
    obtain ⟨x, rfl, -⟩ := isSetB_nat hp.2
    rw [bdF_yes hyes]
    exact BoundaryOf_nat v l a x w h hp.1 hp.2
  have Hs := Lib.hid (bdF_no (l := l) (a := a) (x := x) (by simpa using hyes))
  obtain ⟨wb, hwb⟩ : ∃ wb, wb = w.alloc (.cells #[v] 26) := ⟨_, rfl⟩
  have hE0 := (Ext.refl w).alloc (.cells #[v] 26)
  have hb := box_cell w v 26
  rw [← hwb] at hE0 hb
  have hg : ∀ W, Ext wb W → Ints W v l := fun W hW => h.ext (hE0.trans hW)
  have hE := Ext.refl wb
  have Hsz : Hid (w.heap.size + 1 = wb.heap.size) := Lib.hid (by rw [hwb]; simp [go_sem])
  have Hwb := Lib.hid hwb
  clear hwb h
  have hbx := hb wb hE
  cases hc : connB l a
  · go_enter Try.func85, Try.ntmps85
    go_wp2_with fail
    rw [← Hwb.out]
    go_wp2_with (first | (go_at_call 92; refine (IsConnection_val _ _ _ _ (hg _ hE) (hc)).mono ?_; rintro e w' ⟨rfl, hE'⟩; replace hE := hE.trans hE'; clear hE'))
    go_ret
    exact ⟨ret_int Hs.out.symm, hE0.trans hE⟩
  · cases hx : isSetB l x
    · go_enter Try.func85, Try.ntmps85
      go_wp2_with fail
      rw [← Hwb.out]
      go_wp2_with (first | (go_at_call 92; refine (IsConnection_val _ _ _ _ (hg _ hE) (hc)).mono ?_; rintro e w' ⟨rfl, hE'⟩; replace hE := hE.trans hE'; clear hE') | (go_at_call 144; refine (IsSet_val _ _ _ _ (hg _ hE) (hx)).mono ?_; rintro e w' ⟨rfl, hE'⟩; replace hE := hE.trans hE'; clear hE'))
      go_ret
      exact ⟨ret_int Hs.out.symm, hE0.trans hE⟩
    · exact absurd (by rw [hc, hx]; rfl) hyes
theorem sBoundaryOf_any (v : Value) (l : List Int) (a x : Int) (w : World) (h : Ints w v l) :
    Calls Try.prog 86 #[.agg #[v], .int .i64 a, .int .i64 x] w fun e w' => e = .returned (.int .i64 (bdF l a x)) ∧ Ext w w' := by
  by_cases hyes : (connB l a && isSetB l x) = true
  · have hp := hyes
    rw [Bool.and_eq_true] at hp
    obtain ⟨a, rfl, -⟩ := connB_nat hp.1
    obtain ⟨x, rfl, -⟩ := isSetB_nat hp.2
    rw [bdF_yes hyes]
    exact sBoundaryOf_nat v l a x w h hp.1 hp.2
  have Hs := Lib.hid (bdF_no (l := l) (a := a) (x := x) (by simpa using hyes))
  obtain ⟨wb, hwb⟩ : ∃ wb, wb = w.alloc (.cells #[v] 26) := ⟨_, rfl⟩
  have hE0 := (Ext.refl w).alloc (.cells #[v] 26)
  have hb := box_cell w v 26
  rw [← hwb] at hE0 hb
  have hg : ∀ W, Ext wb W → Ints W v l := fun W hW => h.ext (hE0.trans hW)
  have hE := Ext.refl wb
  have Hsz : Hid (w.heap.size + 1 = wb.heap.size) := Lib.hid (by rw [hwb]; simp [go_sem])
  have Hwb := Lib.hid hwb
  clear hwb h
  have hbx := hb wb hE
  cases hc : connB l a
  · go_enter Try.func86, Try.ntmps86
    go_wp2_with fail
    rw [← Hwb.out]
    go_wp2_with (first | (go_at_call 165; refine (sIsConnection_val _ _ _ _ (hg _ hE) (hc)).mono ?_; rintro e w' ⟨rfl, hE'⟩; replace hE := hE.trans hE'; clear hE'))
    go_ret
    exact ⟨ret_int Hs.out.symm, hE0.trans hE⟩
  · cases hx : isSetB l x
    · go_enter Try.func86, Try.ntmps86
      go_wp2_with fail
      rw [← Hwb.out]
      go_wp2_with (first | (go_at_call 165; refine (sIsConnection_val _ _ _ _ (hg _ hE) (hc)).mono ?_; rintro e w' ⟨rfl, hE'⟩; replace hE := hE.trans hE'; clear hE') | (go_at_call 119; refine (sIsSet_val _ _ _ _ (hg _ hE) (hx)).mono ?_; rintro e w' ⟨rfl, hE'⟩; replace hE := hE.trans hE'; clear hE'))
      go_ret
      exact ⟨ret_int Hs.out.symm, hE0.trans hE⟩
    · exact absurd (by rw [hc, hx]; rfl) hyes
theorem IsIndependent_any (v : Value) (l : List Int) (a x : Int) (w : World) (h : Ints w v l) :
    Calls Try.prog 98 #[.agg #[v], .int .i64 a, .int .i64 x] w fun e w' => e = .returned (.bool (indB l a x)) ∧ Ext w w' := by
  obtain ⟨wb, hwb⟩ : ∃ wb, wb = w.alloc (.cells #[v] 26) := ⟨_, rfl⟩
  have hE0 := (Ext.refl w).alloc (.cells #[v] 26)
  have hb := box_cell w v 26
  rw [← hwb] at hE0 hb
  have hg : ∀ W, Ext wb W → Ints W v l := fun W hW => h.ext (hE0.trans hW)
  have hE := Ext.refl wb
  have Hsz : Hid (w.heap.size + 1 = wb.heap.size) := Lib.hid (by rw [hwb]; simp [go_sem])
  have Hwb := Lib.hid hwb
  clear hwb h
  have hbx := hb wb hE
  cases hc : connB l a
  · have Hs := Lib.hid (indB_no (l := l) (a := a) (x := x) (by rw [hc]; rfl))
    go_enter Try.func98, Try.ntmps98
    go_wp2_with fail
    rw [← Hwb.out]
    go_wp2_with (first | (go_at_call 92; refine (IsConnection_val _ _ _ _ (hg _ hE) (hc)).mono ?_; rintro e w' ⟨rfl, hE'⟩; replace hE := hE.trans hE'; clear hE'))
    go_ret
    exact ⟨ret_bool Hs.out.symm, hE0.trans hE⟩
  · cases hx : isSetB l x
    · have Hs := Lib.hid (indB_no (l := l) (a := a) (x := x) (by rw [hc, hx]; rfl))
      go_enter Try.func98, Try.ntmps98
      go_wp2_with fail
      rw [← Hwb.out]
      go_wp2_with (first | (go_at_call 92; refine (IsConnection_val _ _ _ _ (hg _ hE) (hc)).mono ?_; rintro e w' ⟨rfl, hE'⟩; replace hE := hE.trans hE'; clear hE') | (go_at_call 144; refine (IsSet_val _ _ _ _ (hg _ hE) (hx)).mono ?_; rintro e w' ⟨rfl, hE'⟩; replace hE := hE.trans hE'; clear hE'))
      go_ret
      exact ⟨ret_bool Hs.out.symm, hE0.trans hE⟩
    · obtain ⟨a, rfl, ha1, ha2, hgr⟩ := connB_nat hc
      obtain ⟨x, rfl, hx1, hx2, -⟩ := isSetB_nat hx
      have Hs := Lib.hid (indB_yes (l := l) (a := a) (x := x) (by rw [hc, hx]; rfl))
      have Hgr := Lib.hid hgr
      have Hd := Lib.hid (ind_diff hgr hx1 ha1)
      have hsb := sumF_bd Hgr.out x (oppF l x); have q1 := iand_nat (a := sumF l x (oppF l x)) (b := a) (by omega) (by omega); have Hq : Hid ((((sumF l x (oppF l x) &&& a : Nat) : Int) == 0) = decide (sumF l x a &&& x = 0)) := Lib.hid (by rw [Bool.eq_iff_iff, beq_iff_eq, decide_eq_true_iff, ← Hd.out]; omega)
      clear hgr
      go_enter Try.func98, Try.ntmps98
      go_wp2_with fail
      rw [← Hwb.out]
      go_wp2_with (first | (go_at_call 92; refine (IsConnection_val _ _ _ _ (hg _ hE) (hc)).mono ?_; rintro e w' ⟨rfl, hE'⟩; replace hE := hE.trans hE'; clear hE') | (go_at_call 144; refine (IsSet_val _ _ _ _ (hg _ hE) (hx)).mono ?_; rintro e w' ⟨rfl, hE'⟩; replace hE := hE.trans hE'; clear hE') | (go_at_call 169; refine (difference_any _ _ _ _ _ (hg _ hE) (Hgr) (hx2) (hx2)).mono ?_; rintro e w' ⟨rfl, hE'⟩; replace hE := hE.trans hE'; clear hE'))
      go_ret
      refine ⟨ret_bool ?_, hE0.trans hE⟩
      rw [Hs.out]
      first | exact Hq.out | simp [Hq.out]
theorem sIsIndependent_any (v : Value) (l : List Int) (a x : Int) (w : World) (h : Ints w v l) :
    Calls Try.prog 99 #[.agg #[v], .int .i64 a, .int .i64 x] w fun e w' => e = .returned (.bool (indB l a x)) ∧ Ext w w' := by
  obtain ⟨wb, hwb⟩ : ∃ wb, wb = w.alloc (.cells #[v] 26) := ⟨_, rfl⟩
  have hE0 := (Ext.refl w).alloc (.cells #[v] 26)
  have hb := box_cell w v 26
  rw [← hwb] at hE0 hb
  have hg : ∀ W, Ext wb W → Ints W v l := fun W hW => h.ext (hE0.trans hW)
  have hE := Ext.refl wb
  have Hsz : Hid (w.heap.size + 1 = wb.heap.size) := Lib.hid (by rw [hwb]; simp [go_sem])
  have Hwb := Lib.hid hwb
  clear hwb h
  have hbx := hb wb hE
  cases hc : connB l a
  · have Hs := Lib.hid (indB_no (l := l) (a := a) (x := x) (by rw [hc]; rfl))
    go_enter Try.func99, Try.ntmps99
    go_wp2_with fail
    rw [← Hwb.out]
    go_wp2_with (first | (go_at_call 165; refine (sIsConnection_val _ _ _ _ (hg _ hE) (hc)).mono ?_; rintro e w' ⟨rfl, hE'⟩; replace hE := hE.trans hE'; clear hE'))
    go_ret
    exact ⟨ret_bool Hs.out.symm, hE0.trans hE⟩
  · cases hx : isSetB l x
    · have Hs := Lib.hid (indB_no (l := l) (a := a) (x := x) (by rw [hc, hx]; rfl))
      go_enter Try.func99, Try.ntmps99
      go_wp2_with fail
      rw [← Hwb.out]
      go_wp2_with (first | (go_at_call 165; refine (sIsConnection_val _ _ _ _ (hg _ hE) (hc)).mono ?_; rintro e w' ⟨rfl, hE'⟩; replace hE := hE.trans hE'; clear hE') | (go_at_call 119; refine (sIsSet_val _ _ _ _ (hg _ hE) (hx)).mono ?_; rintro e w' ⟨rfl, hE'⟩; replace hE := hE.trans hE'; clear hE'))
      go_ret
      exact ⟨ret_bool Hs.out.symm, hE0.trans hE⟩
    · obtain ⟨a, rfl, ha1, ha2, hgr⟩ := connB_nat hc
      obtain ⟨x, rfl, hx1, hx2, -⟩ := isSetB_nat hx
      have Hs := Lib.hid (indB_yes (l := l) (a := a) (x := x) (by rw [hc, hx]; rfl))
      have Hgr := Lib.hid hgr
      have Hd := Lib.hid (ind_diff hgr hx1 ha1)
      have hsb := sumF_bd Hgr.out x a; have q1 := iand_nat (a := sumF l x a) (b := x) (by omega) (by omega); have Hq : Hid ((((sumF l x a &&& x : Nat) : Int) == 0) = decide (sumF l x a &&& x = 0)) := Lib.hid (by rw [Bool.eq_iff_iff, beq_iff_eq, decide_eq_true_iff]; omega)
      clear hgr
      go_enter Try.func99, Try.ntmps99
      go_wp2_with fail
      rw [← Hwb.out]
      go_wp2_with (first | (go_at_call 165; refine (sIsConnection_val _ _ _ _ (hg _ hE) (hc)).mono ?_; rintro e w' ⟨rfl, hE'⟩; replace hE := hE.trans hE'; clear hE') | (go_at_call 119; refine (sIsSet_val _ _ _ _ (hg _ hE) (hx)).mono ?_; rintro e w' ⟨rfl, hE'⟩; replace hE := hE.trans hE'; clear hE') | (go_at_call 118; refine (l4Sum_any _ _ _ _ _ (hg _ hE) (Hgr) (hx2) (ha2)).mono ?_; rintro e w' ⟨rfl, hE'⟩; replace hE := hE.trans hE'; clear hE'))
      go_ret
      refine ⟨ret_bool ?_, hE0.trans hE⟩
      rw [Hs.out]
      first | exact Hq.out | simp [Hq.out]
def fuF (l : List Int) : Int := if isGrp l then (fullN l : Int) else 0
theorem sFullSet_any (v : Value) (l : List Int) (w : World) (h : Ints w v l) :
    Calls Try.prog 87 #[.agg #[v]] w fun e w' => e = .returned (.int .i64 (fuF l)) ∧ Ext w w' := by
  obtain ⟨wb, hwb⟩ : ∃ wb, wb = w.alloc (.cells #[v] 26) := ⟨_, rfl⟩
  have hE0 := (Ext.refl w).alloc (.cells #[v] 26)
  have hb := box_cell w v 26
  rw [← hwb] at hE0 hb
  have hg : ∀ W, Ext wb W → Ints W v l := fun W hW => h.ext (hE0.trans hW)
  have hE := Ext.refl wb
  have Hsz : Hid (w.heap.size + 1 = wb.heap.size) := Lib.hid (by rw [hwb]; simp [go_sem])
  have Hwb := Lib.hid hwb
  clear hwb h
  have hbx := hb wb hE
  cases hgr : isGrp l
  · have Hs : Hid (fuF l = 0) := Lib.hid (by unfold fuF; rw [hgr]; rfl)
    go_enter Try.func87, Try.ntmps87
    go_wp2_with fail
    rw [← Hwb.out]
    go_wp2_with (first | (go_at_call 114; refine (sIsGroup_any _ _ _ (hg _ hE)).mono ?_; rintro e w' ⟨rfl, hE'⟩; replace hE := hE.trans hE'; clear hE'))
    go_ret
    exact ⟨ret_int Hs.out.symm, hE0.trans hE⟩
  · have Hs : Hid (fuF l = (fullN l : Int)) := Lib.hid (by unfold fuF; rw [hgr]; rfl)
    have Hgr := Lib.hid hgr
    have hob := ord_bd hgr
    have hP1 := pw_pos (ord l)
    have hP2 := pw_le hob.2
    have hq := ishl_one (n := ord l) (by omega)
    have hw : IntKind.i64.wrap (((pw (ord l) : Nat) : Int) - 1) = (fullN l : Int) := by
      have e : ((pw (ord l) : Nat) : Int) - 1 = (fullN l : Int) := by unfold fullN; omega
      rw [e]; exact IntWalk.i64_in _ (by unfold fullN; omega)
    go_enter Try.func87, Try.ntmps87
    go_wp2_with fail
    rw [← Hwb.out]
    go_wp2_with (first | (go_at_call 114; refine (sIsGroup_any _ _ _ (hg _ hE)).mono ?_; rintro e w' ⟨rfl, hE'⟩; replace hE := hE.trans hE'; clear hE') | (go_at_call 115; refine (l2Order_any _ _ _ (hg _ hE) (Hgr)).mono ?_; rintro e w' ⟨rfl, hE'⟩; replace hE := hE.trans hE'; clear hE'))
    go_ret
    exact ⟨ret_int (by rw [Hs.out]), hE0.trans hE⟩
def aeF (l : List Int) (x y : Int) : Int := if hasB l x && hasB l y then (addF l x.toNat y.toNat : Int) else -1
theorem aeF_no {l : List Int} {x y : Int} (h : (hasB l x && hasB l y) = false) : aeF l x y = -1 := by unfold aeF; rw [h]; rfl
theorem aeF_yes {l : List Int} {x y : Nat} (h : (hasB l x && hasB l y) = true) : aeF l x y = (addF l x y : Nat) := by unfold aeF; rw [if_pos h]; rfl
theorem sAddElements_any (v : Value) (l : List Int) (x y : Int) (w : World) (h : Ints w v l) :
    Calls Try.prog 79 #[.agg #[v], .int .i64 x, .int .i64 y] w fun e w' => e = .returned (.int .i64 (aeF l x y)) ∧ Ext w w' := by
  obtain ⟨wb, hwb⟩ : ∃ wb, wb = w.alloc (.cells #[v] 26) := ⟨_, rfl⟩
  have hE0 := (Ext.refl w).alloc (.cells #[v] 26)
  have hb := box_cell w v 26
  rw [← hwb] at hE0 hb
  have hg : ∀ W, Ext wb W → Ints W v l := fun W hW => h.ext (hE0.trans hW)
  have hE := Ext.refl wb
  have Hsz : Hid (w.heap.size + 1 = wb.heap.size) := Lib.hid (by rw [hwb]; simp [go_sem])
  have Hwb := Lib.hid hwb
  clear hwb h
  have hbx := hb wb hE
  have cx := fun W (hW : Ext wb W) => l2Is_any _ l x W (hg W hW)
  have cy := fun W (hW : Ext wb W) => l2Is_any _ l y W (hg W hW)
  cases hx : hasB l x
  · have Hs := Lib.hid (aeF_no (l := l) (x := x) (y := y) (by rw [hx]; rfl))
    rw [hx] at cx
    go_enter Try.func79, Try.ntmps79
    go_wp2_with fail
    rw [← Hwb.out]
    go_wp2_with (first | (go_at_call 140; refine (cx _ hE).mono ?_; rintro e w' ⟨rfl, hE'⟩; replace hE := hE.trans hE'; clear hE'))
    go_ret
    exact ⟨ret_int Hs.out.symm, hE0.trans hE⟩
  · cases hy : hasB l y
    · have Hs := Lib.hid (aeF_no (l := l) (x := x) (y := y) (by rw [hx, hy]; rfl))
      rw [hx] at cx
      rw [hy] at cy
      obtain ⟨x, rfl, -⟩ := hasB_nat hx
      go_enter Try.func79, Try.ntmps79
      go_wp2_with fail
      rw [← Hwb.out]
      refine (cx _ hE).mono ?_
      rintro e w' ⟨rfl, hE'⟩
      replace hE := hE.trans hE'
      clear hE'
      go_wp2_with fail
      refine (cy _ hE).mono ?_
      rintro e w' ⟨rfl, hE'⟩
      replace hE := hE.trans hE'
      clear hE'
      go_wp2_with fail
      go_ret
      exact ⟨ret_int Hs.out.symm, hE0.trans hE⟩
    · have hxy : (hasB l x && hasB l y) = true := by rw [hx, hy]; rfl
      rw [hx] at cx
      rw [hy] at cy
      obtain ⟨x, rfl, hx1, hgr⟩ := hasB_nat hx
      obtain ⟨y, rfl, hy1, -⟩ := hasB_nat hy
      have Hs := Lib.hid (aeF_yes hxy)
      have Hgr := Lib.hid hgr
      have hob := ord_bd hgr
      clear hgr hxy hx hy
      go_enter Try.func79, Try.ntmps79
      go_wp2_with fail
      rw [← Hwb.out]
      refine (cx _ hE).mono ?_
      rintro e w' ⟨rfl, hE'⟩
      replace hE := hE.trans hE'
      clear hE'
      go_wp2_with fail
      refine (cy _ hE).mono ?_
      rintro e w' ⟨rfl, hE'⟩
      replace hE := hE.trans hE'
      clear hE'
      go_wp2_with (first | (go_at_call 166; refine (l2Add_any _ _ _ _ _ (hg _ hE) Hgr (by omega) (by omega)).mono ?_; rintro e w' ⟨rfl, hE'⟩; replace hE := hE.trans hE'; clear hE'))
      go_ret
      exact ⟨ret_int Hs.out.symm, hE0.trans hE⟩
def dsF (l : List Int) (a b : Int) : Int := if isSetB l a && isSetB l b then (sumF l a.toNat (oppF l b.toNat) : Int) else -1
theorem dsF_no {l : List Int} {a b : Int} (h : (isSetB l a && isSetB l b) = false) : dsF l a b = -1 := by unfold dsF; rw [h]; rfl
theorem dsF_yes {l : List Int} {m n : Nat} (h : (isSetB l m && isSetB l n) = true) : dsF l m n = sumF l m (oppF l n) := by unfold dsF; rw [if_pos h]; rfl
theorem sDifferenceOfSets_any (v : Value) (l : List Int) (a b : Int) (w : World) (h : Ints w v l) :
    Calls Try.prog 83 #[.agg #[v], .int .i64 a, .int .i64 b] w fun e w' => e = .returned (.int .i64 (dsF l a b)) ∧ Ext w w' := by
  obtain ⟨wb, hwb⟩ : ∃ wb, wb = w.alloc (.cells #[v] 26) := ⟨_, rfl⟩
  have hE0 := (Ext.refl w).alloc (.cells #[v] 26)
  have hb := box_cell w v 26
  rw [← hwb] at hE0 hb
  have hg : ∀ W, Ext wb W → Ints W v l := fun W hW => h.ext (hE0.trans hW)
  have hE := Ext.refl wb
  have Hsz : Hid (w.heap.size + 1 = wb.heap.size) := Lib.hid (by rw [hwb]; simp [go_sem])
  have Hwb := Lib.hid hwb
  clear hwb h
  have hbx := hb wb hE
  cases ha : isSetB l a
  · have Hs := Lib.hid (dsF_no (l := l) (a := a) (b := b) (by rw [ha]; rfl))
    go_enter Try.func83, Try.ntmps83
    go_wp2_with fail
    rw [← Hwb.out]
    go_wp2_with (first | (go_at_call 119; refine (sIsSet_any _ _ _ _ (hg _ hE)).mono ?_; rintro e w' ⟨rfl, hE'⟩; replace hE := hE.trans hE'; clear hE'))
    go_ret
    exact ⟨ret_int Hs.out.symm, hE0.trans hE⟩
  · cases hb2 : isSetB l b
    · have Hs := Lib.hid (dsF_no (l := l) (a := a) (b := b) (by rw [ha, hb2]; rfl))
      go_enter Try.func83, Try.ntmps83
      go_wp2_with fail
      rw [← Hwb.out]
      go_wp2_with (first | (go_at_call 119; refine (sIsSet_any _ _ _ _ (hg _ hE)).mono ?_; rintro e w' ⟨rfl, hE'⟩; replace hE := hE.trans hE'; clear hE'))
      go_ret
      exact ⟨ret_int Hs.out.symm, hE0.trans hE⟩
    · obtain ⟨m, rfl, a1, a2, hgr⟩ := isSetB_nat ha
      obtain ⟨n, rfl, b1, b2, -⟩ := isSetB_nat hb2
      have Hs := Lib.hid (dsF_yes (l := l) (m := m) (n := n) (by rw [ha, hb2]; rfl))
      have Hgr := Lib.hid hgr
      have ho2 := oppF_bd hgr n
      have hbU := fun U => hb (Lat wb U) (lat_ext wb U)
      clear hgr
      go_enter Try.func83, Try.ntmps83
      go_wp2_with fail
      rw [← Hwb.out]
      go_wp2_with (first | (go_at_call 119; refine (sIsSet_any _ _ _ _ (hg _ hE)).mono ?_; rintro e w' ⟨rfl, hE'⟩; replace hE := hE.trans hE'; clear hE'))
      first | done | ((refine wp_region_lat (wb) (by kernel_rfl) (by kernel_rfl) hE ?_); (repeat (go_big_quiet_step (first | (go_at_call 171; exact Calls.lat (l3Negate_any _ _ _ _ (hg _ (lat_ext _ _)) Hgr b2)) | (go_at_call 118; exact Calls.lat (l4Sum_any _ _ _ _ _ (hg _ (lat_ext _ _)) Hgr a2 ho2))))); (refine wpQuiet_nil ?_); (intro W hE'); (replace hE := lat_of hE'); (clear hE'))
      go_wp2_with fail
      go_ret
      exact ⟨ret_int Hs.out.symm, hE0.trans hE⟩
def atF (l : List Int) (i : Nat) : Int := if i < l.length then nth l i else ((i : Int) * 37 + (l.length : Int) * 11) % 256
theorem at_any (v : Value) (l : List Int) (i : Nat) (hi : i < 1000) (w : World) (h : Byts w v l) :
    Calls Try.prog 78 #[v, .int .i64 i] w fun e w' => e = .returned (.int .i64 (atF l i)) ∧ Ext w w' := by
  obtain ⟨ao, c, adr, rfl, hl, hb, hadr, hcell⟩ := h.op
  have hix := ints_index (c := c) elY szY hadr i
  by_cases hlt : i < l.length
  · have hltI : (i : Int) < (l.length : Int) := by omega
    have hck := hcell i w hlt (Ext.refl _)
    have hbi := hb i
    have Ha : Hid (atF l i = nth l i) := Lib.hid (by unfold atF; rw [if_pos hlt])
    clear hadr hcell
    go_enter Try.func78, Try.ntmps78
    go_wp2_with fail
    go_ret
    exact ⟨ret_int Ha.out.symm, Ext.refl _⟩
  · have hltI : ¬ (i : Int) < (l.length : Int) := by omega
    have Ha : Hid (atF l i = ((i : Int) * 37 + (l.length : Int) * 11) % 256) := Lib.hid (by unfold atF; rw [if_neg hlt])
    clear hadr hcell
    go_enter Try.func78, Try.ntmps78
    go_wp2_with fail
    go_ret
    exact ⟨ret_int Ha.out.symm, Ext.refl _⟩
theorem atF_bd {w : World} {v : Value} {l : List Int} (h : Byts w v l) (i : Nat) : 0 ≤ atF l i ∧ atF l i < 256 := by
  obtain ⟨_, _, _, _, hb, _⟩ := h
  unfold atF
  split
  · have := hb i; omega
  · exact ⟨Int.emod_nonneg _ (by omega), Int.emod_lt_of_pos _ (by omega)⟩
end Go.Zz
