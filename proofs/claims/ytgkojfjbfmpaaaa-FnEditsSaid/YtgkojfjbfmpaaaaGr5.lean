/- The table of sums. -/
import Derived.Test.YtgkojfjbfmpaaaaGr4
import Derived.Test.YtgkojfjbfmpaaaaGr2
import Derived.Test.YtgkojfjbfmpaaaaGr3
namespace Go.Zz
open Go.RowKit Go.Proofs
set_option maxHeartbeats 400000

theorem Own.cellAt {TI : TypeId} {w0 w : World} {g n c : Nat} {l : List Int} (h : Own TI w0 w (.slice (some ⟨g, 0, none⟩) n c) l) (hn : l.length = n) {i : Nat} (hi : i < n) :
    w.cell? ⟨g, i, none⟩ = some (.int .i64 (nth l i)) ∧ w.frozen? ⟨g, i, none⟩ = false := by
  obtain ⟨ao', c', hv, -, -, hs⟩ := h.shape
  obtain ⟨g', hg1, hc1, hf1⟩ := hs i (by omega)
  simp only [Value.slice.injEq] at hv
  obtain ⟨hv1, -, -⟩ := hv
  rw [← hv1] at hg1
  simp only [Option.some.injEq, Addr.mk.injEq, and_true] at hg1
  obtain rfl := hg1
  exact ⟨hc1, hf1⟩
theorem Own.row {TI : TypeId} {w0 w : World} {ao : Option Addr} {n c : Nat} {l : List Int} (h : Own TI w0 w (.slice ao n c) l) (hn : l.length = n) (hp : 0 < n) :
    ∃ g, ao = some ⟨g, 0, none⟩ ∧ w0.heap.size ≤ g ∧ g < w.heap.size := by
  obtain ⟨ao', c', hv, -, hb, hs⟩ := h.shape
  obtain ⟨g', hg1, hc1, hf1⟩ := hs 0 (by omega)
  simp only [Value.slice.injEq] at hv
  obtain ⟨hv1, -, -⟩ := hv
  subst hv1
  obtain ⟨g, e, h1, h2⟩ := hb _ hg1
  exact ⟨g, by rw [hg1, e], h1, h2⟩
theorem Own.nshape {TI : TypeId} {w0 w : World} {v : Value} {L : List Nat} (h : Own TI w0 w v (castL L)) : ∃ (ao : Option Addr) (c : Nat), v = .slice ao L.length c := by
  obtain ⟨ao, c, e, -, -, -⟩ := h.shape
  exact ⟨ao, c, by rw [e, castL_len]⟩
theorem row_index (g n c : Nat) : ∀ (i : Nat) W, i < n → (Instr.indexAt 24 (.slice (some ⟨g, 0, none⟩) n c) (.int .i64 (i : Int))).run Try.prog W = .ok (.pointer (some ⟨g, i, none⟩)) W := by
  intro i W hi
  rw [run_indexAt_slice (h := elI), if_pos (by omega), szI]
  simp [Result.andThen, Addr.add_lit]
theorem castL_nth {L : List Nat} {i : Nat} : nth (castL L) i = (nthN L i : Int) := nth_castL L i
theorem tabIn_len (l : List Int) (x : Nat) : ∀ (L : List Nat) (t : List Int), (tabIn l x t L).length = t.length
  | [], t => rfl
  | y :: L, t => by
    show (tabIn l x (bump t (addF l x y)) L).length = t.length
    rw [tabIn_len l x L, bump_len]
theorem tabOut_len (l : List Int) (b : Nat) : ∀ (L : List Nat) (t : List Int), (tabOut l b t L).length = t.length
  | [], t => rfl
  | x :: L, t => by
    show (tabOut l b (tabIn l x t (elems b)) L).length = t.length
    rw [tabOut_len l b L, tabIn_len]
theorem tabIn_upto {l : List Int} (hg : isGrp l = true) (x : Nat) : ∀ (L : List Nat) (t : List Int) (B : Int), t.length = ord l → Upto t B → Upto (tabIn l x t L) (B + L.length)
  | [], t, B, _, h => by simpa [tabIn] using h
  | y :: L, t, B, hl, h => by
    have hz : addF l x y < t.length := by rw [hl]; exact addF_lt l (isGrp_ords hg) x y
    have := tabIn_upto hg x L (bump t (addF l x y)) (B + 1) (by rw [bump_len]; exact hl) (h.bump hz)
    show Upto (tabIn l x (bump t (addF l x y)) L) _
    rw [List.length_cons]
    intro i; have := this i; push_cast at this ⊢; omega
theorem tabOut_upto {l : List Int} (hg : isGrp l = true) (b : Nat) : ∀ (L : List Nat) (t : List Int) (B : Int), t.length = ord l → Upto t B → Upto (tabOut l b t L) (B + 24 * L.length)
  | [], t, B, _, h => by simpa [tabOut] using h
  | x :: L, t, B, hl, h => by
    have h1 := tabIn_upto hg x (elems b) t B hl h
    have h2 := tabOut_upto hg b L (tabIn l x t (elems b)) (B + (elems b).length) (by rw [tabIn_len]; exact hl) h1
    have h3 := elems_len b
    show Upto (tabOut l b (tabIn l x t (elems b)) L) _
    rw [List.length_cons]
    intro i; have := h2 i; push_cast at this ⊢; omega
/-- the count that is to be raised fits -/
theorem tab_fits {l : List Int} (hg : isGrp l = true) {b x : Nat} {L M : List Nat} (hL : L.length ≤ 24) (hM : M.length ≤ 24) (i : Nat) :
    0 ≤ nth (tabIn l x (tabOut l b (List.replicate (ord l) 0) L) M) i ∧ nth (tabIn l x (tabOut l b (List.replicate (ord l) 0) L) M) i ≤ 1000 := by
  have h1 := tabOut_upto hg b L _ 0 (by simp) (Upto.zeros (ord l))
  have h2 := tabIn_upto hg x M _ _ (by rw [tabOut_len]; simp) h1
  have := h2 i
  omega

theorem SumTable_any (v : Value) (l : List Int) (a b : Int) (w : World) (h : Ints w v l) :
    Calls Try.prog 68 #[.agg #[v], .int .i64 a, .int .i64 b] w fun e w' => ∃ u, e = .returned u ∧ Own 3 w w' u (tabF l a b) ∧ Ext w w' := by
  obtain ⟨wb, hwb⟩ : ∃ wb, wb = w.alloc (.cells #[v] 26) := ⟨_, rfl⟩
  have hE0 := (Ext.refl w).alloc (.cells #[v] 26)
  have hb := box_cell w v 26
  rw [← hwb] at hE0 hb
  have hg : ∀ W, Ext wb W → Ints W v l := fun W hW => h.ext (hE0.trans hW)
  have hE := Ext.refl wb
  have Hsz : Hid (w.heap.size + 1 = wb.heap.size) := Lib.hid (by rw [hwb]; simp [go_sem])
  have Hwb := Lib.hid hwb
  clear hwb h
  have hbx := hb wb hE
  have har := areF_two l a b
  cases hs : (isSetB l a && isSetB l b)
  · have Hs := Lib.hid (tabF_no hs)
    rw [hs] at har
    clear hs
    go_enter Try.func68, Try.ntmps68
    go_wp2_with fail
    rw [← Hwb.out]; rw [Hsz.out]
    go_wp2_with (first | (go_at_call 88; refine Calls.mono (areSets_val _ _ _ _ _ (hg _ (by repeat (first | assumption | exact Ext.refl _ | (apply And.left; assumption) | apply Ext.drew | apply Ext.alloc))) (ints_two _ _ _ _) har) ?_; rintro e w' ⟨rfl, hE'⟩; replace hE := hE.trans (Ext.trans (by repeat (first | assumption | exact Ext.refl _ | (apply And.left; assumption) | apply Ext.drew | apply Ext.alloc)) hE'); clear hE'))
    go_ret
    exact ⟨_, rfl, by rw [Hs.out]; exact own_made (by omega) (hE0.trans hE) [] rfl, (hE0.trans hE).alloc _⟩
  · obtain ⟨h1, h2⟩ := Bool.and_eq_true_iff.1 hs
    obtain ⟨a, rfl, -, ha, hgr⟩ := isSetB_nat h1
    obtain ⟨b, rfl, -, hb', -⟩ := isSetB_nat h2
    have Hs := Lib.hid (tabF_yes hs)
    rw [hs] at har
    have Hgr := Lib.hid hgr
    have hob := ord_bd hgr
    clear hs hgr h1 h2
    go_enter Try.func68, Try.ntmps68
    go_wp2_with fail
    rw [← Hwb.out]; rw [Hsz.out]
    go_wp2_with (first | (go_at_call 88; refine Calls.mono (areSets_val _ _ _ _ _ (hg _ (by repeat (first | assumption | exact Ext.refl _ | (apply And.left; assumption) | apply Ext.drew | apply Ext.alloc))) (ints_two _ _ _ _) har) ?_; rintro e w' ⟨rfl, hE'⟩; replace hE := hE.trans (Ext.trans (by repeat (first | assumption | exact Ext.refl _ | (apply And.left; assumption) | apply Ext.drew | apply Ext.alloc)) hE'); clear hE') | (go_at_call 81; refine (OrderOf_grp _ _ _ (hg _ hE) (Hgr)).mono ?_; rintro e w' ⟨rfl, hE'⟩; replace hE := hE.trans hE'; clear hE') | (at_make; refine wp_make_ints slI rfl _ _ rfl wb _ (ord l) rfl rfl (by omega) hE ?_; intro w2 hO hE2) | (go_at_call 139; refine (members_any a ha _).mono ?_; rintro e w1 ⟨v1, rfl, hL, hE1⟩; obtain ⟨aoL, cL, rfl⟩ := hL.nshape))
    obtain ⟨g, hgd⟩ : ∃ g, g = w'.heap.size := ⟨_, rfl⟩
    rw [← hgd] at hO ⊢
    clear hgd
    obtain ⟨_, _, hg1, hg2⟩ := hO.row (by simp) (by omega)
    rename_i hge
    simp only [Option.some.injEq, Addr.mk.injEq, and_true] at hge
    subst hge
    replace hO := hO.ext hE1
    replace hE := hE2.trans hE1
    have hixO := row_index g (ord l) (ord l)
    have hall : ∀ y ∈ elems a, y < 24 := fun y hy => elems_lt hy
    have hlen := elems_len a
    clear hE1 hE2
    generalize elems a = L at hL hall hlen Hs ⊢
    go_loopw [25] (fun i wr => ∃ k : Nat, k ≤ L.length ∧ i = .int .i64 k ∧ Own 3 wb wr (.slice (some ⟨g, 0, none⟩) (ord l) (ord l)) (tabOut l b (List.replicate (ord l) 0) (L.take k)) ∧ Own 3 w2 wr (.slice aoL L.length cL) (castL L) ∧ Ext wb wr) (fun i _ => L.length - (intOf i).toNat)
    case atStart => exact ⟨0, by omega, rfl, hO, hL, hE⟩
    case round =>
      clear hE hO hL
      obtain ⟨k, hk, rfl, hO, hL, hE⟩ := hrel
      have hbx := hb _ hE
      by_cases hlt : k < L.length
      · obtain ⟨gL, rfl, -, -⟩ := hL.row (castL_len L) (by omega)
        have hck := (hL.cellAt (castL_len L) hlt).1
        rw [castL_nth] at hck
        have hixL := row_index gL L.length cL
        have hgw : g < wr.heap.size := (hO.blk g rfl).2
        have hx24 := hall _ (nthN_mem hlt)
        have Hsn := Lib.hid (tabOut_snoc l b (List.replicate (ord l) 0) (L.take k) (nthN L k))
        have Htk := Lib.hid (take_nthN L k hlt)
        have hLk : (L.take k).length ≤ 24 := by rw [List.length_take]; omega
        go_wp2_with (first | (go_at_call 139; refine (members_any b hb' _).mono ?_; rintro e w3 ⟨v3, rfl, hM, hE3⟩; obtain ⟨aoM, cM, rfl⟩ := hM.nshape))
        replace hO := hO.ext hE3
        replace hL := hL.ext hE3
        replace hE := hE.trans hE3
        have hallM : ∀ y ∈ elems b, y < 24 := fun y hy => elems_lt hy
        have hlenM := elems_len b
        obtain ⟨M, hMd⟩ : ∃ M, M = elems b := ⟨_, rfl⟩
        rw [← hMd] at hM hallM hlenM ⊢
        have HMd := Lib.hid hMd
        clear hMd hck hixL
        go_loopw [32] (fun i wq => ∃ j : Nat, j ≤ M.length ∧ i = .int .i64 j ∧ Own 3 wb wq (.slice (some ⟨g, 0, none⟩) (ord l) (ord l)) (tabIn l (nthN L k) (tabOut l b (List.replicate (ord l) 0) (L.take k)) (M.take j)) ∧ Own 3 w2 wq (.slice (some ⟨gL, 0, none⟩) L.length cL) (castL L) ∧ Own 3 wr wq (.slice aoM M.length cM) (castL M) ∧ Ext wb wq) (fun i _ => M.length - (intOf i).toNat)
        case atStart => exact ⟨0, by omega, rfl, hO, hL, hM, hE⟩
        case round =>
          clear hE hO hL hM hbx
          obtain ⟨j, hj, rfl, hO, hL, hM, hE⟩ := hrel
          have hbx := hb _ hE
          by_cases hlt2 : j < M.length
          · obtain ⟨gM, rfl, -, -⟩ := hM.row (castL_len M) (by omega)
            have hck := (hM.cellAt (castL_len M) hlt2).1
            rw [castL_nth] at hck
            have hixM := row_index gM M.length cM
            have hy24 := hallM _ (nthN_mem hlt2)
            have Hsn2 := Lib.hid (tabIn_snoc l (nthN L k) (tabOut l b (List.replicate (ord l) 0) (L.take k)) (M.take j) (nthN M j))
            have Htk2 := Lib.hid (take_nthN M j hlt2)
            have hMj : (M.take j).length ≤ 24 := by rw [List.length_take]; omega
            have hfit := tab_fits Hgr.out (b := b) (x := nthN L k) hLk hMj (addF l (nthN L k) (nthN M j))
            have hzo := addF_lt l (isGrp_ords Hgr.out) (nthN L k) (nthN M j)
            have hT : Hid ((tabIn l (nthN L k) (tabOut l b (List.replicate (ord l) 0) (L.take k)) (M.take j)).length = ord l) := Lib.hid (by rw [tabIn_len, tabOut_len]; simp)
            generalize tabIn l (nthN L k) (tabOut l b (List.replicate (ord l) 0) (L.take k)) (M.take j) = T at hO hfit Hsn2 hT
            go_wp2_with (first | (go_at_call 140; refine (add_any _ _ _ _ _ (hg _ hE) Hgr (by omega) (by omega)).mono ?_; rintro e w4 ⟨rfl, hE'⟩; replace hO := hO.ext hE'; replace hL := hL.ext hE'; replace hM := hM.ext hE'; replace hE := hE.trans hE'; obtain ⟨hzc, hzf⟩ := hO.cellAt hT.out hzo; clear hE'))
            go_roundw
            case rel =>
              refine ⟨j + 1, by omega, by go_num, ?_, hL.setCell_below hg2 _, hM.setCell_below hgw _, hE.setCell hg1 _⟩
              rw [Htk2.out, Hsn2.out]
              exact (hO.stored_grown hT.out _ _).1
            case measure => (simp [intOf]; omega)
          · have hkl : j = M.length := by omega
            subst hkl
            have hO' : Own 3 wb wr (.slice (some ⟨g, 0, none⟩) (ord l) (ord l)) (tabOut l b (List.replicate (ord l) 0) (L.take (k + 1))) := by
              rw [Htk.out, Hsn.out, ← HMd.out]; rw [List.take_length] at hO; exact hO
            go_wp2_with fail
            go_roundw
            case rel => exact ⟨k + 1, by omega, by go_num, hO', hL, hE⟩
            case measure => (simp [intOf]; omega)
      · have hkl : k = L.length := by omega
        subst hkl
        rw [List.take_length, ← Hs.out] at hO
        go_wp2_with fail
        go_ret
        exact ⟨_, rfl, hO.mono hE0, hE0.trans hE⟩
end Go.Zz

/- What the laws' own helpers on groups do. -/
namespace Go.Zz
open Go.RowKit Go.Proofs
set_option maxHeartbeats 400000

--%call szGroup 52 ext szGroup_any _ _ _ _ ({0}) ({1}) ({2})
theorem szGroup_any (v : Value) (l : List Int) (left : Int) (w : World) (h : Ints w v l) (h1 : 0 ≤ left) (h2 : left ≤ 1048576) :
    Calls Try.prog 52 #[.agg #[v], .int .i64 left] w fun e w' => e = .returned (.int .i64 (szL l left)) ∧ Ext w w' := by
  have hE0 := (Ext.refl w).alloc (.cells #[v] 53)
  have hE := Ext.refl (w.alloc (.cells #[v] 53))
  have hb := box_cell w v 53
  have hg : ∀ W, Ext (w.alloc (.cells #[v] 53)) W → Ints W v l := fun W hW => h.ext (hE0.trans hW)
  clear h
  have hlt : szL l left = -1 ∨ 0 ≤ szL l left := by unfold szL; split <;> omega
  rcases hlt with hs | hs
  · have hs2 : szL l left < 0 := by omega
    have Hs := Lib.hid hs
    clear hs
    go_enter Try.func52, Try.ntmps52
    go_wp2_with (first | (go_at_call 94; refine (szIntS_any _ _ _ _ (hg _ hE) (h1) (h2)).mono ?_; rintro e w' ⟨rfl, rfl⟩))
    go_ret
    exact ⟨ret_int Hs.out.symm, hE0⟩
  · go_enter Try.func52, Try.ntmps52
    go_wp2_with (first | (go_at_call 94; refine (szIntS_any _ _ _ _ (hg _ hE) (h1) (h2)).mono ?_; rintro e w' ⟨rfl, rfl⟩))
    go_ret
    exact ⟨ret_int rfl, hE0⟩
theorem eqGroup_any0 : True := trivial
--%call eqGroup 56 ext eqGroup_any _ _ _ _ _ ({0}) ({1})
theorem eqGroup_any (v u : Value) (l m : List Int) (w : World) (h : Ints w v l) (k : Ints w u m) :
    Calls Try.prog 56 #[.agg #[v], .agg #[u]] w fun e w' => e = .returned (.bool (decide (l = m))) ∧ Ext w w' := by
  have hE0 := ((Ext.refl w).alloc (.cells #[v] 26)).alloc (.cells #[u] 26)
  have hE := Ext.refl ((w.alloc (.cells #[v] 26)).alloc (.cells #[u] 26))
  have hI1 := h.ext hE0
  have hI2 := k.ext hE0
  clear h k
  by_cases e : l = m
  · have hd : decide (l = m) = true := by simp [e]
    clear e
    go_enter Try.func56, Try.ntmps56
    go_wp2_with (first | (go_at_call 121; refine (eqIntS_any _ _ _ _ _ (hI1) (hI2)).mono ?_; rintro e w' ⟨rfl, hE'⟩; replace hE := hE.trans hE'; clear hE'))
    go_ret
    exact ⟨ret_bool hd.symm, hE0.trans hE⟩
  · have hd : decide (l = m) = false := by simp [e]
    clear e
    go_enter Try.func56, Try.ntmps56
    go_wp2_with (first | (go_at_call 121; refine (eqIntS_any _ _ _ _ _ (hI1) (hI2)).mono ?_; rintro e w' ⟨rfl, hE'⟩; replace hE := hE.trans hE'; clear hE'))
    go_ret
    exact ⟨ret_bool hd.symm, hE0.trans hE⟩
--%call toGroup 54 own toGroup_any _ _ _ ({0})
theorem toGroup_any (v : Value) (l : List Int) (w : World) (h : Ints w v l) :
    Calls Try.prog 54 #[.agg #[v]] w fun e w' => ∃ v', e = .returned (.agg #[v']) ∧ Own 3 w w' v' l ∧ Ext w w' := by
  have hE0 := (((Ext.refl w).alloc (.cells #[v] 53)).alloc (.cells #[.slice none 0 0] 26)).alloc (.cells #[.slice none 0 0] 26)
  obtain ⟨wb, hwb⟩ : ∃ wb, wb = ((w.alloc (.cells #[v] 53)).alloc (.cells #[.slice none 0 0] 26)).alloc (.cells #[.slice none 0 0] 26) := ⟨_, rfl⟩
  have c1 : wb.cell? ⟨w.heap.size + 1, 0, none⟩ = some (.slice none 0 0) := by rw [hwb]; simp [go_sem]
  have c2 : wb.cell? ⟨w.heap.size + 1 + 1, 0, none⟩ = some (.slice none 0 0) := by rw [hwb]; simp [go_sem]
  have f1 : wb.frozen? ⟨w.heap.size + 1, 0, none⟩ = false := by rw [hwb]; simp [go_sem]
  have f2 : wb.frozen? ⟨w.heap.size + 1 + 1, 0, none⟩ = false := by rw [hwb]; simp [go_sem]
  have k1 := cell_in c1
  have k2 := cell_in c2
  have g1 := free_in c1 f1
  have g2 := free_in c2 f2
  rw [← hwb] at hE0
  have hI := h.ext hE0
  have hs : wb.heap.size = w.heap.size + 3 := by rw [hwb]; simp
  clear c1 c2 f1 f2 h
  have Hwb := Lib.hid hwb
  clear hwb
  go_enter Try.func54, Try.ntmps54
  go_wp2_with fail
  rw [← Hwb.out]
  refine (toIntS_any _ _ _ hI).mono ?_
  rintro e w' ⟨v', rfl, hO, hE⟩
  obtain ⟨ao', c', rfl, -⟩ := hO.shape
  have k1' := k1 _ hE
  have k2' := k2 _ hE
  have g1' := g1 _ hE
  have g2' := g2 _ hE
  have Hs := Lib.hid hs
  clear hs
  go_wp2_with fail
  refine bodyPost_ret (v := .agg #[.slice ao' l.length c']) (by simp [results, Try.results54, k1', go_sem]) rfl ⟨_, rfl, ?_, ?_⟩
  · exact ((hO.setCell_below (by rw [Hs.out]; simp) _).setCell_below (by rw [Hs.out]; simp) _).mono hE0
  · exact ((hE0.trans hE).setCell (by simp [Nat.add_assoc]) _).setCell (by simp) _
end Go.Zz

/- EqualGroups, MeetingBound. -/
namespace Go.Zz
open Go.RowKit Go.Proofs
set_option maxHeartbeats 400000

--%call EqualGroups 79 ext EqualGroups_any _ _ _ _ _ ({0}) ({1})
theorem EqualGroups_any (v u : Value) (l m : List Int) (w : World) (h : Ints w v l) (k : Ints w u m) :
    Calls Try.prog 79 #[.agg #[v], .agg #[u]] w fun e w' => e = .returned (.bool (decide (l = m))) ∧ Ext w w' := by
  have hE0 := ((Ext.refl w).alloc (.cells #[v] 26)).alloc (.cells #[u] 26)
  have hE := Ext.refl ((w.alloc (.cells #[v] 26)).alloc (.cells #[u] 26))
  have hI1 := h.ext hE0
  have hI2 := k.ext hE0
  clear h k
  go_enter Try.func79, Try.ntmps79
  go_wp2_with (first | (go_at_call 69; refine (slicesEqual_any _ _ _ _ _ (hI1) (hI2)).mono ?_; rintro e w' ⟨rfl, hE'⟩; replace hE := hE.trans hE'; clear hE'))
  go_ret
  exact ⟨ret_bool rfl, hE0.trans hE⟩

--%call sEqualGroups 64 ext sEqualGroups_any _ _ _ _ _ ({0}) ({1})
theorem sEqualGroups_any (v u : Value) (l m : List Int) (w : World) (h : Ints w v l) (k : Ints w u m) :
    Calls Try.prog 64 #[.agg #[v], .agg #[u]] w fun e w' => e = .returned (.bool (decide (l = m))) ∧ Ext w w' := by
  obtain ⟨ao, c, adr, rfl, hlen, hadr, hcell⟩ := h.op
  have hix := ints_index (c := c) elI szI hadr
  obtain ⟨ao2, c2, adr2, rfl, hlen2, hadr2, hcell2⟩ := k.op
  have hix2 := ints_index (c := c2) elI szI hadr2
  clear hadr hadr2 h k
  obtain ⟨wb, hwb⟩ : ∃ wb, wb = (w.alloc (.cells #[.slice ao l.length c] 26)).alloc (.cells #[.slice ao2 m.length c2] 26) := ⟨_, rfl⟩
  have hE0 := ((Ext.refl w).alloc (.cells #[.slice ao l.length c] 26)).alloc (.cells #[.slice ao2 m.length c2] 26)
  have k1 := cell_in (show wb.cell? ⟨w.heap.size, 0, none⟩ = some (.slice ao l.length c) by rw [hwb]; simp [go_sem])
  have k2 := cell_in (show wb.cell? ⟨w.heap.size + 1, 0, none⟩ = some (.slice ao2 m.length c2) by rw [hwb]; simp [go_sem])
  have k1L := fun U => k1 _ (lat_ext wb U)
  have k2L := fun U => k2 _ (lat_ext wb U)
  rw [← hwb] at hE0
  have hE := Ext.refl wb
  have Hwb := Lib.hid hwb
  clear hwb
  by_cases hl : l.length = m.length
  · have hl1 : ((l.length : Int) != (m.length : Int)) = false := by simp [hl]
    have Hl := Lib.hid hl
    clear hl
    go_enter Try.func64, Try.ntmps64
    go_wp2_with fail
    rw [← Hwb.out]
    go_loopw [5] (fun i wr => ∃ k : Nat, k ≤ l.length ∧ (∀ j, j < k → nth l j = nth m j) ∧ i = .int .i64 k ∧ Ext wb wr) (fun i _ => l.length - (intOf i).toNat)
    case atStart => exact ⟨0, by omega, by omega, rfl, hE⟩
    case round =>
      clear hE
      obtain ⟨k, hk, hall, rfl, hE⟩ := hrel
      have Hall := Lib.hid hall
      clear hall
      have k1' := k1 _ hE
      have k2' := k2 _ hE
      by_cases hlt : k < l.length
      · have hlt2 : k < m.length := by have := Hl.out; omega
        have hck := fun U => hcell k _ hlt (hE0.trans (lat_ext wb U))
        have hck2 := fun U => hcell2 k _ hlt2 (hE0.trans (lat_ext wb U))
        by_cases he : nth l k = nth m k
        · have he1 : (nth l k != nth m k) = false := by simp [he]
          have He := Lib.hid he
          clear he
          go_wp2_with fail
          (refine wp_region_lat (wb) (by kernel_rfl) (by kernel_rfl) hE ?_); (repeat (go_big_quiet_step (first | fail))); (refine wpQuiet_nil ?_); (intro W hE'); (replace hE := lat_of hE'); (clear hE')
          go_wp2_with fail
          go_roundw
          case rel => exact ⟨k + 1, by omega, fun j hj => by by_cases e : j = k; (subst e; exact He.out); exact Hall.out j (by omega), by go_num, hE⟩
          case measure => (simp [intOf]; omega)
        · have he1 : (nth l k != nth m k) = true := by simp [he]
          have He := Lib.hid he
          clear he
          go_wp2_with fail
          (refine wp_region_lat (wb) (by kernel_rfl) (by kernel_rfl) hE ?_); (repeat (go_big_quiet_step (first | fail))); (refine wpQuiet_nil ?_); (intro W hE'); (replace hE := lat_of hE'); (clear hE')
          go_wp2_with fail
          go_ret
          exact ⟨ret_bool (by symm; rw [decide_eq_false_iff_not]; intro e; exact He.out (by rw [e])), hE0.trans hE⟩
      · have hkl : k = l.length := by omega
        subst hkl
        go_wp2_with fail
        go_ret
        exact ⟨ret_bool (by symm; rw [decide_eq_true_iff]; exact ext_nth Hl.out Hall.out), hE0.trans hE⟩
  · have hl1 : ((l.length : Int) != (m.length : Int)) = true := by simp; omega
    have Hl := Lib.hid hl
    clear hl
    go_enter Try.func64, Try.ntmps64
    go_wp2_with fail
    rw [← Hwb.out]
    go_ret
    exact ⟨ret_bool (by symm; rw [decide_eq_false_iff_not]; intro e; exact Hl.out (by rw [e])), hE0⟩

/-- the bound of MeetingBound -/
def meetF (l : List Int) (a : Int) : Int := if isSetB l a && !(a == 0) then ((ord l : Int) + cnt a.toNat - 1) / cnt a.toNat else -1
theorem meetF_no {l : List Int} {a : Int} (h : isSetB l a = false) : meetF l a = -1 := by unfold meetF; rw [h]; rfl
theorem meetF_zero (l : List Int) : meetF l 0 = -1 := by unfold meetF; simp
theorem meetF_yes {l : List Int} {n : Nat} (h : isSetB l n = true) (h0 : 0 < n) : meetF l n = ((ord l : Int) + cnt n - 1) / cnt n := by
  unfold meetF
  have : ((n : Int) == 0) = false := by simp; omega
  rw [h, this]; simp
--%call MeetingBound 34 ext MeetingBound_any _ _ _ _ ({0})
theorem MeetingBound_any (v : Value) (l : List Int) (a : Int) (w : World) (h : Ints w v l) :
    Calls Try.prog 34 #[.agg #[v], .int .i64 a] w fun e w' => e = .returned (.int .i64 (meetF l a)) ∧ Ext w w' := by
  have hE0 := (Ext.refl w).alloc (.cells #[v] 26)
  have hE := Ext.refl (w.alloc (.cells #[v] 26))
  have hb := box_cell w v 26
  have hg : ∀ W, Ext (w.alloc (.cells #[v] 26)) W → Ints W v l := fun W hW => h.ext (hE0.trans hW)
  clear h
  cases hs : isSetB l a
  · have Hs := Lib.hid hs
    go_enter Try.func34, Try.ntmps34
    go_wp2_with (first | (go_at_call 66; refine (IsSet_any _ _ _ _ (hg _ hE)).mono ?_; rintro e w' ⟨rfl, hE'⟩; replace hE := hE.trans hE'; clear hE'))
    go_ret
    exact ⟨ret_int (meetF_no Hs.out).symm, hE0.trans hE⟩
  · obtain ⟨n, rfl, h1, h2, h3⟩ := isSetB_nat hs
    by_cases h0 : n = 0
    · subst h0
      go_enter Try.func34, Try.ntmps34
      go_wp2_with (first | (go_at_call 66; refine (IsSet_any _ _ _ _ (hg _ hE)).mono ?_; rintro e w' ⟨rfl, hE'⟩; replace hE := hE.trans hE'; clear hE'))
      go_ret
      exact ⟨ret_int (meetF_zero l).symm, hE0.trans hE⟩
    · have h0' : ((n : Int) == 0) = false := by simp; omega
      have hm := Lib.hid (meetF_yes hs (by omega))
      have hb1 := ord_bd h3
      have hb2 := cnt_pos (by omega) h2
      have hb3 := cnt_le n
      have ho := ordF_t h3
      have h3' := Lib.hid h3
      clear h3
      have hq1 : 0 ≤ (ord l : Int) + cnt n - 1 := by omega
      go_enter Try.func34, Try.ntmps34
      go_wp2_with (first | (go_at_call 66; refine (IsSet_any _ _ _ _ (hg _ hE)).mono ?_; rintro e w' ⟨rfl, hE'⟩; replace hE := hE.trans hE'; clear hE') | (go_at_call 81; refine (OrderOf_any _ _ _ (hg _ hE)).mono ?_; rintro e w' ⟨rfl, hE'⟩; replace hE := hE.trans hE'; clear hE') | (go_at_call 83; refine (bits_any _ (h2) _).mono ?_; rintro e w' ⟨rfl, rfl⟩))
      go_ret
      exact ⟨ret_int hm.out.symm, hE0.trans hE⟩
--%call sMeetingBound 35 ext sMeetingBound_any _ _ _ _ ({0})
theorem sMeetingBound_any (v : Value) (l : List Int) (a : Int) (w : World) (h : Ints w v l) :
    Calls Try.prog 35 #[.agg #[v], .int .i64 a] w fun e w' => e = .returned (.int .i64 (meetF l a)) ∧ Ext w w' := by
  have hE0 := (Ext.refl w).alloc (.cells #[v] 26)
  have hE := Ext.refl (w.alloc (.cells #[v] 26))
  have hb := box_cell w v 26
  have hg : ∀ W, Ext (w.alloc (.cells #[v] 26)) W → Ints W v l := fun W hW => h.ext (hE0.trans hW)
  clear h
  cases hs : isSetB l a
  · have Hs := Lib.hid hs
    go_enter Try.func35, Try.ntmps35
    go_wp2_with (first | (go_at_call 73; refine (sIsSet_any _ _ _ _ (hg _ hE)).mono ?_; rintro e w' ⟨rfl, hE'⟩; replace hE := hE.trans hE'; clear hE'))
    go_ret
    exact ⟨ret_int (meetF_no Hs.out).symm, hE0.trans hE⟩
  · obtain ⟨n, rfl, h1, h2, h3⟩ := isSetB_nat hs
    by_cases h0 : n = 0
    · subst h0
      go_enter Try.func35, Try.ntmps35
      go_wp2_with (first | (go_at_call 73; refine (sIsSet_any _ _ _ _ (hg _ hE)).mono ?_; rintro e w' ⟨rfl, hE'⟩; replace hE := hE.trans hE'; clear hE'))
      go_ret
      exact ⟨ret_int (meetF_zero l).symm, hE0.trans hE⟩
    · have h0' : ((n : Int) == 0) = false := by simp; omega
      have hm := Lib.hid (meetF_yes hs (by omega))
      have hb1 := ord_bd h3
      have hb2 := cnt_pos (by omega) h2
      have hb3 := cnt_le n
      have ho := trivial
      have h3' := Lib.hid h3
      clear h3
      have hq1 : 0 ≤ (ord l : Int) + cnt n - 1 := by omega
      go_enter Try.func35, Try.ntmps35
      go_wp2_with (first | (go_at_call 73; refine (sIsSet_any _ _ _ _ (hg _ hE)).mono ?_; rintro e w' ⟨rfl, hE'⟩; replace hE := hE.trans hE'; clear hE') | (go_at_call 84; refine (l2Order_any _ _ _ (hg _ hE) (h3')).mono ?_; rintro e w' ⟨rfl, hE'⟩; replace hE := hE.trans hE'; clear hE') | (go_at_call 85; refine (l3Bits_any _ (h2) _).mono ?_; rintro e w' ⟨rfl, rfl⟩))
      go_ret
      exact ⟨ret_int hm.out.symm, hE0.trans hE⟩
end Go.Zz

/- Kept: the laws' helpers, EqualKept. -/
namespace Go.Zz
open Go.RowKit Go.Proofs
set_option maxHeartbeats 400000

/-- a value of type Kept -/
def IsK (w : World) (c : Value) (l : List Int) (n : Int) (m : List Int) : Prop := ∃ v u, c = .agg #[v, .int .i64 n, u] ∧ Ints w v l ∧ Ints w u m
theorem IsK.ext {w w' : World} {c : Value} {l m : List Int} {n : Int} (h : IsK w c l n m) (hE : Ext w w') : IsK w' c l n m := by
  obtain ⟨v, u, rfl, h1, h2⟩ := h; exact ⟨v, u, rfl, h1.ext hE, h2.ext hE⟩
def szK (l m : List Int) (left : Int) : Int := if szL l left < 0 then -1 else szL m (szL l left)
theorem szL_cases (l : List Int) {left : Int} (h : 0 ≤ left) : szL l left = -1 ∨ (0 ≤ szL l left ∧ szL l left ≤ left) := by unfold szL; split <;> omega


def eqK (l m : List Int) (n : Int) (l' m' : List Int) (n' : Int) : Bool := decide (l = l' ∧ n = n' ∧ m = m')
--%call EqualKept 28 ext EqualKept_any _ _ _ _ _ _ _ _ _ ({0}) ({1})
theorem EqualKept_any (c d : Value) (l m : List Int) (n : Int) (l' m' : List Int) (n' : Int) (w : World) (h : IsK w c l n m) (k : IsK w d l' n' m') :
    Calls Try.prog 28 #[c, d] w fun e w' => e = .returned (.bool (eqK l m n l' m' n')) ∧ Ext w w' := by
  obtain ⟨v, u, rfl, hv, hu⟩ := h
  obtain ⟨v', u', rfl, hv', hu'⟩ := k
  obtain ⟨wb, hwb⟩ : ∃ wb, wb = (w.alloc (.cells #[v, .int .i64 n, u] 28)).alloc (.cells #[v', .int .i64 n', u'] 28) := ⟨_, rfl⟩
  have e0 : Ext w wb := by rw [hwb]; exact ((Ext.refl _).alloc _).alloc _
  have B0 : Blk wb w.heap.size 28 #[v, .int .i64 n, u] := by rw [hwb]; exact (Blk.new _ _ _).alloc _
  have B1 : Blk wb (w.heap.size + 1) 28 #[v', .int .i64 n', u'] := by rw [hwb]; simpa using Blk.new (w.alloc (.cells #[v, .int .i64 n, u] 28)) 28 #[v', .int .i64 n', u']
  have a1 := fun W (hW : Ext wb W) => (B0.ext hW).cell (i := 1) (v := .int .i64 n) rfl
  have a2 := fun W (hW : Ext wb W) => (B0.ext hW).cell (i := 2) (v := u) rfl
  have b1 := fun W (hW : Ext wb W) => (B1.ext hW).cell (i := 1) (v := .int .i64 n') rfl
  have b2 := fun W (hW : Ext wb W) => (B1.ext hW).cell (i := 2) (v := u') rfl
  have i1 := hv.ext e0
  have i2 := hv'.ext e0
  have i3 := hu.ext e0
  have i4 := hu'.ext e0
  have Hwb := Lib.hid hwb
  clear hwb hv hu hv' hu' B0 B1
  by_cases c1 : l = l'
  · have d1 : decide (l = l') = true := by simp [c1]
    have C1 := Lib.hid c1
    by_cases c2 : n = n'
    · have d2 : (n == n') = true := by simp [c2]
      have d2' : (n != n') = false := by simp [c2]
      have C2 := Lib.hid c2
      by_cases c3 : m = m'
      · have d3 : decide (m = m') = true := by simp [c3]
        have C3 := Lib.hid c3
        clear c1 c2 c3
        go_enter Try.func28, Try.ntmps28
        go_wp2_with fail
        rw [← Hwb.out]
        refine (EqualGroups_any _ _ _ _ _ i1 i2).mono ?_
        rintro e w1 ⟨rfl, hE⟩
        go_wp2_with fail
        refine (slicesEqual_any _ _ _ _ _ (i3.ext hE) (i4.ext hE)).mono ?_
        rintro e w2 ⟨rfl, hE2⟩
        go_wp2_with fail
        go_ret
        exact ⟨ret_bool (by unfold eqK; symm; rw [decide_eq_true_iff]; exact ⟨C1.out, C2.out, C3.out⟩), e0.trans (hE.trans hE2)⟩
      · have d3 : decide (m = m') = false := by simp [c3]
        have C3 := Lib.hid c3
        clear c1 c2 c3
        go_enter Try.func28, Try.ntmps28
        go_wp2_with fail
        rw [← Hwb.out]
        refine (EqualGroups_any _ _ _ _ _ i1 i2).mono ?_
        rintro e w1 ⟨rfl, hE⟩
        go_wp2_with fail
        refine (slicesEqual_any _ _ _ _ _ (i3.ext hE) (i4.ext hE)).mono ?_
        rintro e w2 ⟨rfl, hE2⟩
        go_wp2_with fail
        go_ret
        exact ⟨ret_bool (by unfold eqK; symm; rw [decide_eq_false_iff_not]; exact fun h => C3.out h.2.2), e0.trans (hE.trans hE2)⟩
    · have d2 : (n == n') = false := by simp [c2]
      have d2' : (n != n') = true := by simp [c2]
      have C2 := Lib.hid c2
      clear c1 c2
      go_enter Try.func28, Try.ntmps28
      go_wp2_with fail
      rw [← Hwb.out]
      refine (EqualGroups_any _ _ _ _ _ i1 i2).mono ?_
      rintro e w1 ⟨rfl, hE⟩
      go_wp2_with fail
      go_ret
      exact ⟨ret_bool (by unfold eqK; symm; rw [decide_eq_false_iff_not]; exact fun h => C2.out h.2.1), e0.trans hE⟩
  · have d1 : decide (l = l') = false := by simp [c1]
    have C1 := Lib.hid c1
    clear c1
    go_enter Try.func28, Try.ntmps28
    go_wp2_with fail
    rw [← Hwb.out]
    refine (EqualGroups_any _ _ _ _ _ i1 i2).mono ?_
    rintro e w1 ⟨rfl, hE⟩
    go_wp2_with fail
    go_ret
    exact ⟨ret_bool (by unfold eqK; symm; rw [decide_eq_false_iff_not]; exact fun h => C1.out h.1), e0.trans hE⟩
--%call sEqualKept 11 ext sEqualKept_any _ _ _ _ _ _ _ _ _ ({0}) ({1})
theorem sEqualKept_any (c d : Value) (l m : List Int) (n : Int) (l' m' : List Int) (n' : Int) (w : World) (h : IsK w c l n m) (k : IsK w d l' n' m') :
    Calls Try.prog 11 #[c, d] w fun e w' => e = .returned (.bool (eqK l m n l' m' n')) ∧ Ext w w' := by
  obtain ⟨v, u, rfl, hv, hu⟩ := h
  obtain ⟨v', u', rfl, hv', hu'⟩ := k
  obtain ⟨wb, hwb⟩ : ∃ wb, wb = (w.alloc (.cells #[v, .int .i64 n, u] 28)).alloc (.cells #[v', .int .i64 n', u'] 28) := ⟨_, rfl⟩
  have e0 : Ext w wb := by rw [hwb]; exact ((Ext.refl _).alloc _).alloc _
  have B0 : Blk wb w.heap.size 28 #[v, .int .i64 n, u] := by rw [hwb]; exact (Blk.new _ _ _).alloc _
  have B1 : Blk wb (w.heap.size + 1) 28 #[v', .int .i64 n', u'] := by rw [hwb]; simpa using Blk.new (w.alloc (.cells #[v, .int .i64 n, u] 28)) 28 #[v', .int .i64 n', u']
  have a1 := fun W (hW : Ext wb W) => (B0.ext hW).cell (i := 1) (v := .int .i64 n) rfl
  have a2 := fun W (hW : Ext wb W) => (B0.ext hW).cell (i := 2) (v := u) rfl
  have b1 := fun W (hW : Ext wb W) => (B1.ext hW).cell (i := 1) (v := .int .i64 n') rfl
  have b2 := fun W (hW : Ext wb W) => (B1.ext hW).cell (i := 2) (v := u') rfl
  have i1 := hv.ext e0
  have i2 := hv'.ext e0
  have i3 := hu.ext e0
  have i4 := hu'.ext e0
  have Hwb := Lib.hid hwb
  clear hwb hv hu hv' hu' B0 B1
  by_cases c1 : l = l'
  · have d1 : decide (l = l') = true := by simp [c1]
    have C1 := Lib.hid c1
    by_cases c2 : n = n'
    · have d2 : (n == n') = true := by simp [c2]
      have d2' : (n != n') = false := by simp [c2]
      have C2 := Lib.hid c2
      by_cases c3 : m = m'
      · have d3 : decide (m = m') = true := by simp [c3]
        have C3 := Lib.hid c3
        clear c1 c2 c3
        go_enter Try.func11, Try.ntmps11
        go_wp2_with fail
        rw [← Hwb.out]
        refine (sEqualGroups_any _ _ _ _ _ i1 i2).mono ?_
        rintro e w1 ⟨rfl, hE⟩
        go_wp2_with fail
        refine (l30Same_any _ _ _ _ _ (i3.ext hE) (i4.ext hE)).mono ?_
        rintro e w2 ⟨rfl, hE2⟩
        go_wp2_with fail
        go_ret
        exact ⟨ret_bool (by unfold eqK; symm; rw [decide_eq_true_iff]; exact ⟨C1.out, C2.out, C3.out⟩), e0.trans (hE.trans hE2)⟩
      · have d3 : decide (m = m') = false := by simp [c3]
        have C3 := Lib.hid c3
        clear c1 c2 c3
        go_enter Try.func11, Try.ntmps11
        go_wp2_with fail
        rw [← Hwb.out]
        refine (sEqualGroups_any _ _ _ _ _ i1 i2).mono ?_
        rintro e w1 ⟨rfl, hE⟩
        go_wp2_with fail
        refine (l30Same_any _ _ _ _ _ (i3.ext hE) (i4.ext hE)).mono ?_
        rintro e w2 ⟨rfl, hE2⟩
        go_wp2_with fail
        go_ret
        exact ⟨ret_bool (by unfold eqK; symm; rw [decide_eq_false_iff_not]; exact fun h => C3.out h.2.2), e0.trans (hE.trans hE2)⟩
    · have d2 : (n == n') = false := by simp [c2]
      have d2' : (n != n') = true := by simp [c2]
      have C2 := Lib.hid c2
      clear c1 c2
      go_enter Try.func11, Try.ntmps11
      go_wp2_with fail
      rw [← Hwb.out]
      refine (sEqualGroups_any _ _ _ _ _ i1 i2).mono ?_
      rintro e w1 ⟨rfl, hE⟩
      go_wp2_with fail
      go_ret
      exact ⟨ret_bool (by unfold eqK; symm; rw [decide_eq_false_iff_not]; exact fun h => C2.out h.2.1), e0.trans hE⟩
  · have d1 : decide (l = l') = false := by simp [c1]
    have C1 := Lib.hid c1
    clear c1
    go_enter Try.func11, Try.ntmps11
    go_wp2_with fail
    rw [← Hwb.out]
    refine (sEqualGroups_any _ _ _ _ _ i1 i2).mono ?_
    rintro e w1 ⟨rfl, hE⟩
    go_wp2_with fail
    go_ret
    exact ⟨ret_bool (by unfold eqK; symm; rw [decide_eq_false_iff_not]; exact fun h => C1.out h.1), e0.trans hE⟩
end Go.Zz
