/- The table of sums of the reference; kept counts. -/
import Derived.Test.YtgjomoedgmofbaaC21
import Derived.Test.YtgjomoedgmofbaaC8
import Derived.Test.YtgjomoedgmofbaaPk
namespace Go.Zz
open Go.RowKit Go.Proofs
set_option maxHeartbeats 400000

theorem lat_cell {w : World} {p : Addr} {x : Value} (h : w.cell? p = some x) (U : World) : (Lat w U).cell? p = some x := (lat_ext w U).cell h
theorem sSumTable_any (v : Value) (l : List Int) (a b : Int) (w : World) (h : Ints w v l) :
    Calls Try.prog 149 #[.agg #[v], .int .i64 a, .int .i64 b] w fun e w' => ∃ u, e = .returned u ∧ Own 3 w w' u (tabF l a b) ∧ Ext w w' := by
  obtain ⟨wb, hwb⟩ : ∃ wb, wb = w.alloc (.cells #[v] 26) := ⟨_, rfl⟩
  have hE0 := (Ext.refl w).alloc (.cells #[v] 26)
  have hb := box_cell w v 26
  rw [← hwb] at hE0 hb
  have hg : ∀ W, Ext wb W → Ints W v l := fun W hW => h.ext (hE0.trans hW)
  have hE := Ext.refl wb
  have Hsz : Hid (w.heap.size + 1 = wb.heap.size) := Lib.hid (by rw [hwb]; simp [go_sem])
  have Hwb := Lib.hid hwb
  clear hwb h
  have hbx := hb wb hE
  cases hs : (isSetB l a && isSetB l b)
  · have Hs := Lib.hid (tabF_no hs)
    cases h1 : isSetB l a
    · go_enter Try.func149, Try.ntmps149
      go_wp2_with fail
      rw [← Hwb.out]; try rw [Hsz.out]
      go_wp2_with (first | (go_at_call 119; refine (sIsSet_val _ _ _ _ (hg _ hE) (h1)).mono ?_; rintro e w' ⟨rfl, hE'⟩; replace hE := hE.trans hE'; clear hE'))
      go_ret
      exact ⟨_, rfl, by rw [Hs.out]; exact own_made (by omega) (hE0.trans hE) [] rfl, (hE0.trans hE).alloc _⟩
    · have h2 : isSetB l b = false := by simpa [h1] using hs
      clear hs
      go_enter Try.func149, Try.ntmps149
      go_wp2_with fail
      rw [← Hwb.out]; try rw [Hsz.out]
      go_wp2_with (first | (go_at_call 119; (first | (with_reducible refine Calls.mono (sIsSet_val _ _ a _ (hg _ hE) h1) ?_) | (with_reducible refine Calls.mono (sIsSet_val _ _ b _ (hg _ hE) h2) ?_)); rintro e w' ⟨rfl, hE'⟩; replace hE := hE.trans hE'; clear hE'))
      go_ret
      exact ⟨_, rfl, by rw [Hs.out]; exact own_made (by omega) (hE0.trans hE) [] rfl, (hE0.trans hE).alloc _⟩
  · obtain ⟨h1, h2⟩ := Bool.and_eq_true_iff.1 hs
    obtain ⟨a, rfl, -, ha, hgr⟩ := isSetB_nat h1
    obtain ⟨b, rfl, -, hb', -⟩ := isSetB_nat h2
    have Hs := Lib.hid (tabF_yes hs)
    have Hgr := Lib.hid hgr
    have hob := ord_bd hgr
    clear hs hgr
    go_enter Try.func149, Try.ntmps149
    go_wp2_with fail
    rw [← Hwb.out]; try rw [Hsz.out]
    go_wp2_with (first | (go_at_call 119; (first | (with_reducible refine Calls.mono (sIsSet_val _ _ (a : Int) _ (hg _ hE) h1) ?_) | (with_reducible refine Calls.mono (sIsSet_val _ _ (b : Int) _ (hg _ hE) h2) ?_)); rintro e w' ⟨rfl, hE'⟩; replace hE := hE.trans hE'; clear hE') | (go_at_call 115; refine (l2Order_any _ _ _ (hg _ hE) (Hgr)).mono ?_; rintro e w' ⟨rfl, hE'⟩; replace hE := hE.trans hE'; clear hE') | (at_make; refine wp_make_ints slI rfl _ _ rfl wb _ (ord l) rfl rfl (by omega) hE ?_; intro w2 hO hE2))
    rename_i hgd
    refine (l3List_any a ha _).mono ?_
    rintro e w1 ⟨v1, rfl, hL, hE1⟩
    obtain ⟨aoL, cL, rfl⟩ := hL.nshape
    go_wp2_with fail
    refine (l3List_any b hb' _).mono ?_
    rintro e w3 ⟨v3, rfl, hM, hE3⟩
    obtain ⟨aoM, cM, rfl⟩ := hM.nshape
    obtain ⟨g, hgd⟩ : ∃ g, g = w'.heap.size := ⟨_, rfl⟩
    rw [← hgd] at hO ⊢
    clear hgd
    obtain ⟨_, hge, hg1, hg2⟩ := hO.row (by simp) (by omega)
    simp only [Option.some.injEq, Addr.mk.injEq, and_true] at hge
    subst hge
    have hg3 : g < w1.heap.size := Nat.lt_of_lt_of_le hg2 hE1.size
    replace hO := (hO.ext hE1).ext hE3
    replace hL := hL.ext hE3
    replace hE := hE2.trans (hE1.trans hE3)
    have hixO := row_index g (ord l) (ord l)
    have hall : ∀ y ∈ elems a, y < 24 := fun y hy => elems_lt hy
    have hlen := elems_len a
    have hallM : ∀ y ∈ elems b, y < 24 := fun y hy => elems_lt hy
    have hlenM := elems_len b
    clear hE1 hE2 hE3 h1 h2 hbx
    obtain ⟨M, hMd⟩ : ∃ M, M = elems b := ⟨_, rfl⟩
    rw [← hMd] at hM hallM hlenM ⊢
    have HMd := Lib.hid hMd
    clear hMd
    generalize elems a = L at hL hall hlen Hs ⊢
    go_wp2_with fail
    go_loopw [10] (fun i wr => ∃ k : Nat, k ≤ L.length ∧ i = .int .i64 k ∧ Own 3 wb wr (.slice (some ⟨g, 0, none⟩) (ord l) (ord l)) (tabOut l b (List.replicate (ord l) 0) (L.take k)) ∧ Own 3 w2 wr (.slice aoL L.length cL) (castL L) ∧ Own 3 w1 wr (.slice aoM M.length cM) (castL M) ∧ Ext wb wr) (fun i _ => L.length - (intOf i).toNat)
    case atStart => exact ⟨0, by omega, rfl, hO, hL, hM, hE⟩
    case round =>
      clear hE hO hL hM
      obtain ⟨k, hk, rfl, hO, hL, hM, hE⟩ := hrel
      by_cases hlt : k < L.length
      · have hx24 := hall _ (nthN_mem hlt)
        have Hsn := Lib.hid (tabOut_snoc l b (List.replicate (ord l) 0) (L.take k) (nthN L k))
        have Htk := Lib.hid (take_nthN L k hlt)
        have hLk : (L.take k).length ≤ 24 := by rw [List.length_take]; omega
        go_wp2_with fail
        go_loopw [11] (fun i wq => ∃ j : Nat, j ≤ M.length ∧ i = .int .i64 j ∧ Own 3 wb wq (.slice (some ⟨g, 0, none⟩) (ord l) (ord l)) (tabIn l (nthN L k) (tabOut l b (List.replicate (ord l) 0) (L.take k)) (M.take j)) ∧ Own 3 w2 wq (.slice aoL L.length cL) (castL L) ∧ Own 3 w1 wq (.slice aoM M.length cM) (castL M) ∧ Ext wb wq) (fun i _ => M.length - (intOf i).toNat)
        case atStart => exact ⟨0, by omega, rfl, hO, hL, hM, hE⟩
        case round =>
          clear hE hO hL hM
          obtain ⟨j, hj, rfl, hO, hL, hM, hE⟩ := hrel
          by_cases hlt2 : j < M.length
          · obtain ⟨gL, rfl, -, -⟩ := hL.row (castL_len L) (by omega)
            have hcL := lat_cell (hL.cellAt (castL_len L) hlt).1
            rw [castL_nth] at hcL
            have hixL := row_index gL L.length cL
            obtain ⟨gM, rfl, -, -⟩ := hM.row (castL_len M) (by omega)
            have hcM := lat_cell (hM.cellAt (castL_len M) hlt2).1
            rw [castL_nth] at hcM
            have hixM := row_index gM M.length cM
            have hbx := lat_cell (hb _ hE)
            have hy24 := hallM _ (nthN_mem hlt2)
            have Hsn2 := Lib.hid (tabIn_snoc l (nthN L k) (tabOut l b (List.replicate (ord l) 0) (L.take k)) (M.take j) (nthN M j))
            have Htk2 := Lib.hid (take_nthN M j hlt2)
            have hMj : (M.take j).length ≤ 24 := by rw [List.length_take]; omega
            have hfit := tab_fits Hgr.out (b := b) (x := nthN L k) hLk hMj (addF l (nthN L k) (nthN M j))
            have hzo := addF_lt l (isGrp_ords Hgr.out) (nthN L k) (nthN M j)
            have hT : Hid ((tabIn l (nthN L k) (tabOut l b (List.replicate (ord l) 0) (L.take k)) (M.take j)).length = ord l) := Lib.hid (by rw [tabIn_len, tabOut_len]; simp)
            generalize tabIn l (nthN L k) (tabOut l b (List.replicate (ord l) 0) (L.take k)) (M.take j) = T at hO hfit Hsn2 hT
            have hEb := hE
            clear hE
            have hE := Ext.refl wr
            go_wp2_with fail
            (refine wp_region_lat (wr) (by kernel_rfl) (by kernel_rfl) hE ?_); (repeat (go_big_quiet_step (first | (go_at_call 166; exact Calls.lat (l2Add_any _ _ _ _ _ ((hg _ (hEb.trans (lat_ext wr _)))) (Hgr) ((by omega)) ((by omega))))))); (refine wpQuiet_nil ?_); (intro W hE'); (replace hE := lat_of hE'); (clear hE')
            replace hO := hO.ext hE
            replace hL := hL.ext hE
            replace hM := hM.ext hE
            replace hEb := hEb.trans hE
            obtain ⟨hzc, hzf⟩ := hO.cellAt hT.out hzo
            clear hE hcL hcM hbx hixL hixM
            go_wp2_with fail
            go_roundw
            case rel =>
              refine ⟨j + 1, by omega, by go_num, ?_, hL.setCell_below hg2 _, hM.setCell_below hg3 _, hEb.setCell hg1 _⟩
              rw [Htk2.out, Hsn2.out]
              exact (hO.stored_grown hT.out _ _).1
            case measure => (simp [intOf]; omega)
          · have hkl : j = M.length := by omega
            subst hkl
            have hO' : Own 3 wb wr (.slice (some ⟨g, 0, none⟩) (ord l) (ord l)) (tabOut l b (List.replicate (ord l) 0) (L.take (k + 1))) := by
              rw [Htk.out, Hsn.out, ← HMd.out]; rw [List.take_length] at hO; exact hO
            go_wp2_with fail
            go_roundw
            case rel => exact ⟨k + 1, by omega, by go_num, hO', hL, hM, hE⟩
            case measure => (simp [intOf]; omega)
      · have hkl : k = L.length := by omega
        subst hkl
        rw [List.take_length, ← Hs.out] at hO
        go_wp2_with fail
        go_ret
        exact ⟨_, rfl, hO.mono hE0, hE0.trans hE⟩
end Go.Zz
