/- All atoms in their order: the reference. -/
import Derived.Test.YtdlbbpeahicakaaGreatGr15
import Derived.Test.YtdlbbpeahicakaaGreatGr11
import Derived.Laws.EntriesVeiled
import Derived.Test.YtdlbbpeahicakaaGreatGr10
namespace Go.Zz
open Go.RowKit Go.Proofs
set_option maxHeartbeats 4000000
set_option maxRecDepth 8000

def atB (l : List Int) : Bool := isGrp l && decide (ord l ≤ 7)
theorem isA_step {A : List (List Nat)} {i : Nat} (hi : i < A.length) : isA (A.take (i + 1)) = insA (A.getD i []) (isA (A.take i)) := by
  rw [List.take_succ_eq_append_getElem hi, isA_snoc]
  congr 1
  simp [List.getD, hi]
theorem isA_take_len {A : List (List Nat)} {i : Nat} (hi : i ≤ A.length) : (isA (A.take i)).length = i := by
  rw [(isA_perm _).length_eq, List.length_take]; omega
theorem insK_down {x : List Nat} {o : List (List Nat)} {k : Nat} (h : cmpA x (o.getD k []) < 0) : insK x o (k + 1) = insK x o k := by rw [insK, if_pos h]
theorem insK_stop {x : List Nat} {o : List (List Nat)} {k : Nat} (h : ¬ cmpA x (o.getD k []) < 0) : insK x o (k + 1) = k + 1 := by rw [insK, if_neg h]
theorem sAtomsOf_no (v : Value) (l : List Int) (w : World) (h : Ints w v l) (hn : atB l = false) :
    Calls Tryz.prog 191 #[.agg #[v]] w fun e w' => ∃ v', e = .returned (.tuple #[v', .bool false]) ∧ Ext w w' := by
  obtain ⟨wb, hwb⟩ : ∃ wb, wb = w.alloc (.cells #[v] 27) := ⟨_, rfl⟩
  have hE0 := (Ext.refl w).alloc (.cells #[v] 27)
  have hb := box_cell w v 27
  rw [← hwb] at hE0 hb
  have hg : ∀ W, Ext wb W → Ints W v l := fun W hW => h.ext (hE0.trans hW)
  have hE := Ext.refl wb
  have Hsz : Hid (w.heap.size + 1 = wb.heap.size) := Lib.hid (by rw [hwb]; simp [go_sem])
  have Hwb := Lib.hid hwb
  clear hwb h
  have cG := fun W (hW : Ext wb W) => sIsGroup_any v l W (hg W hW)
  have hE1 := hE.alloc (.cells #[] 22)
  have hb1 := hb _ hE1
  cases hgr : isGrp l
  · rw [hgr] at cG
    go_enter Tryz.func191, Tryz.ntmps191
    go_wp2_with fail
    rw [← Hwb.out]; rw [Hsz.out]
    go_wp2_with (go_at_call 100; refine (cG _ hE1).mono ?_; rintro e w1 ⟨rfl, hE2⟩; have hb2 := hb _ (hE1.trans hE2))
    exact bodyPost_ret (v := .tuple #[.slice (some ⟨wb.heap.size, 0, none⟩) 0 0, .bool false]) (by simp [results, Tryz.results191, go_sem]) rfl ⟨_, rfl, hE0.trans (hE1.trans hE2)⟩
  · rw [hgr] at cG
    have Hgr := Lib.hid hgr
    have h9 : ¬ (ord l ≤ 7) := by
      intro h9; unfold atB at hn; rw [hgr, decide_eq_true h9] at hn; cases hn
    have h9I : (7 : Int) < (ord l : Int) := by omega
    have cO := fun W (hW : Ext wb W) => l2Order_any v l W (hg W hW) Hgr
    clear hgr hn
    go_enter Tryz.func191, Tryz.ntmps191
    go_wp2_with fail
    rw [← Hwb.out]; rw [Hsz.out]
    go_wp2_with (first | (go_at_call 100; refine (cG _ hE1).mono ?_; rintro e w1 ⟨rfl, hE2⟩; have hE12 := hE1.trans hE2; have hb2 := hb _ hE12) | (go_at_call 59; refine (cO _ hE12).mono ?_; rintro e w3 ⟨rfl, hE3⟩))
    exact bodyPost_ret (v := .tuple #[.slice (some ⟨wb.heap.size, 0, none⟩) 0 0, .bool false]) (by simp [results, Tryz.results191, go_sem]) rfl ⟨_, rfl, hE0.trans (hE12.trans hE3)⟩
theorem sAtomsOf_yes (v : Value) (l : List Int) (w : World) (h : Ints w v l) (hn : atB l = true) :
    Calls Tryz.prog 191 #[.agg #[v]] w fun e w' => ∃ v', e = .returned (.tuple #[v', .bool true]) ∧ OwnC w w' v' (atS l) ∧ Ext w w' := by
  obtain ⟨wb, hwb⟩ : ∃ wb, wb = w.alloc (.cells #[v] 27) := ⟨_, rfl⟩
  have hE0 := (Ext.refl w).alloc (.cells #[v] 27)
  have hb := box_cell w v 27
  rw [← hwb] at hE0 hb
  have hg : ∀ W, Ext wb W → Ints W v l := fun W hW => h.ext (hE0.trans hW)
  have hE := Ext.refl wb
  have Hsz : Hid (w.heap.size + 1 = wb.heap.size) := Lib.hid (by rw [hwb]; simp [go_sem])
  have Hwb := Lib.hid hwb
  clear hwb h
  obtain ⟨hgr, h9⟩ : isGrp l = true ∧ ord l ≤ 7 := by unfold atB at hn; simpa using hn
  have Hgr := Lib.hid hgr
  have cG := fun W (hW : Ext wb W) => sIsGroup_any v l W (hg W hW)
  rw [hgr] at cG
  have hA48 := atL_le hgr h9
  have hob := ord_bd hgr
  clear hgr hn
  have cO := fun W (hW : Ext wb W) => l2Order_any v l W (hg W hW) Hgr
  have h9I : ¬ (7 : Int) < (ord l : Int) := by omega
  have hE1 := hE.alloc (.cells #[] 22)
  have hO0 : OwnC wb (wb.alloc (.cells #[] 22)) (.slice (some ⟨wb.heap.size, 0, none⟩) 0 0) [] := ownC_made hE
  have cA : ∀ W, Ext wb W → Calls Tryz.prog 216 #[.agg #[v], .slice (some ⟨W.heap.size, 0, none⟩) 0 0, .int .i64 0, .int .i64 0, .slice (some ⟨W.heap.size + 1, 0, none⟩) 0 0] ((W.alloc (.cells #[] 3)).alloc (.cells #[] 22)) fun e w' => ∃ vo', e = .returned vo' ∧ OwnC wb w' vo' (atL l) ∧ Ext W w' := fun W hW => by
    have hs1 : (W.alloc (.cells #[] 3)).heap.size = W.heap.size + 1 := by simp
    have hX1 := (Ext.refl W).alloc (.cells #[] 3)
    have hX2 := hX1.alloc (.cells #[] 22)
    have hOc := ownC_made (w0 := wb) (hW.trans hX1)
    rw [hs1] at hOc
    refine (sAtoms_any v l Hgr wb (Lib.hid hg) (ord l + 1) [] 0 0 [] _ _ _ (hW.trans hX2) (Or.inl ⟨rfl, _, _, rfl⟩) hOc (Nat.two_pow_pos _) (Nat.zero_testBit 0) (by omega) (by omega) (by simp) (by simp) (by simpa [atL] using hA48)).mono ?_
    rintro e w' ⟨vo', rfl, h1, h2, h3⟩
    exact ⟨vo', rfl, by simpa [atL] using h1, hX2.grown h2 fun k hk => by simp [Value.ownBlock] at hk; omega⟩
  obtain ⟨wc, hwc⟩ : ∃ wc, wc = wb.alloc (.cells #[] 22) := ⟨_, rfl⟩
  rw [← hwc] at hE1 hO0
  have hb1 := hb _ hE1
  have Hwc := Lib.hid hwc
  clear hwc
  have Hfin : Hid (atS l = isA ((atL l).take (atL l).length)) := Lib.hid (by rw [List.take_length]; rfl)
  obtain ⟨A, hAd⟩ : ∃ A, A = atL l := ⟨_, rfl⟩
  rw [← hAd] at hA48 Hfin
  simp only [← hAd] at cA
  clear hAd
  go_enter Tryz.func191, Tryz.ntmps191
  go_wp2_with fail
  rw [← Hwb.out]; rw [Hsz.out]; rw [← Hwc.out]
  go_wp2_with (first | (go_at_call 100; refine (cG _ hE1).mono ?_; rintro e w1 ⟨rfl, hE2⟩; have hE12 := hE1.trans hE2; have hb2 := hb _ hE12) | (go_at_call 59; refine (cO _ hE12).mono ?_; rintro e w3 ⟨rfl, hE3⟩; replace hE12 := hE12.trans hE3; replace hE2 := hE2.trans hE3; have hb3 := hb _ hE12; have hb5 := hb _ ((hE12.alloc (.cells #[] 3)).alloc (.cells #[] 22))) | (go_at_call 216; refine (cA _ hE12).mono ?_; rintro e w6 ⟨vl, rfl, hA6, hE6⟩; have hRA := hA6; obtain ⟨aoA, cA', rfl, hcapA, hcellA⟩ := hA6.shape))
  have HO6 := Lib.hid (hO0.ext (hE2.trans hE6))
  have HE06 := Lib.hid (hE0)
  have hE06 := hE12.trans hE6
  have HE6 := Lib.hid hE06
  have HcA := Lib.hid hcellA
  clear hO0 hE2 hE1 hb1 hE hE3 hE6 hE12 cA hcellA hA6 hRA
  go_loopw [4, 6] (fun so si wr => ∃ i : Nat, i ≤ A.length ∧ si = .int .i64 i ∧ OwnC w wr so (isA (A.take i)) ∧ Ext w6 wr) (fun _ si _ => A.length - (intOf si).toNat)
  case atStart => exact ⟨0, by omega, rfl, by simpa [isA] using HO6.out.mono hE0, Ext.refl _⟩
  case round =>
    clear HO6
    obtain ⟨i, hi, rfl, hO, hEr⟩ := hrel
    have hOl := isA_take_len hi
    by_cases hlt : i < A.length
    · have hltI : (i : Int) < (A.length : Int) := by omega
      have HIs := Lib.hid (isA_step hlt)
      obtain ⟨O, hOd⟩ : ∃ O, O = isA (A.take i) := ⟨_, rfl⟩
      rw [← hOd] at hO hOl HIs
      obtain ⟨gA, y, rfl, hcy, hRy⟩ := HcA.out i hlt
      obtain ⟨aoY, nY, cY, rfl⟩ : ∃ ao n c, y = .slice ao n c := by obtain ⟨-, g, cap, cs, h, -⟩ := hRy; exact ⟨_, _, _, h⟩
      obtain ⟨L, hL, hRows⟩ := hO.rows
      have hcO := hO.shape
      obtain ⟨aoO, cO, rfl, hcapO, hcellO⟩ := hcO
      rename World => wo
      have HL := Lib.hid hL
      have HRows := Lib.hid hRows
      have HRy := Lib.hid (hRy.ext hEr)
      have HKy : Hid (∀ W, Ext wo W → W.cell? ⟨gA, i, none⟩ = some (Value.slice aoY nY cY)) := Lib.hid (fun W hW => (hEr.trans hW).cell hcy)
      have HcO := Lib.hid hcellO
      have HEr := Lib.hid hEr
      have HOl := Lib.hid hOl
      have hO48 : O.length ≤ 48 := by omega
      have hixA := rowV_ix elV szV gA A.length cA'
      obtain ⟨aI, haI⟩ : ∃ a, a = A.getD i [] := ⟨_, rfl⟩
      rw [← haI] at HIs HRy
      have HaI := Lib.hid haI
      have hEs := Ext.refl wo
      clear hL hRows hcellO hEr hOl hOd hcy hRy haI hO hb2 hb3 hb5
      go_wp2_with fail
      go_loopw [7] (fun sk wq => ∃ k : Nat, k ≤ O.length ∧ sk = .int .i64 k ∧ Hid (insK aI O O.length = insK aI O k) ∧ Ext wo wq) (fun sk _ => (intOf sk).toNat)
      case atStart => exact ⟨O.length, Nat.le_refl _, rfl, Lib.hid rfl, hEs⟩
      case round =>
        clear hEs
        obtain ⟨k, hk, rfl, HKk, hEs⟩ := hrel
        have hEs0 := hEs
        by_cases hk0 : k = 0
        · subst hk0
          have hE := Ext.refl wr
          go_wp2_with fail
          (refine wp_region_lat (wr) (by kernel_rfl) (by kernel_rfl) hE ?_); (repeat (go_big_quiet_step (first | (fail "no call")))); (refine wpQuiet_nil ?_); (intro W hE'); (replace hE := lat_of hE'); (clear hE')
          have hEs := hEs0.trans hE
          clear hE hEs0
          rename World => wr
          have hsl := fun W => run_cut (P := Tryz.prog) elV szV aoO O.length cO (0 : Int) (by omega) (by omega) W
          have hsa := fun W => run_cutAt (P := Tryz.prog) elV szV aoO O.length cO (0 : Int) (by omega) (by omega) W
          have hfl := fun W => run_cutFrom (P := Tryz.prog) elV szV aoO O.length cO (0 : Int) (by omega) (by omega) W
          have hfa := fun W => run_cutFromAt (P := Tryz.prog) elV szV aoO O.length cO (0 : Int) (by omega) (by omega) W
          rw [show ((0 : Int) : Int).toNat = 0 by omega] at hsl hsa hfl hfa
          have hEq := HEr.out.trans hEs
          have hlL : L.length = O.length := HRows.out.1
          have HA := Lib.hid (fun W (hW : Ext wr W) => (cells_take (HL.out.cells) (k := 0) (by omega) hlL).ext (hEs.trans hW))
          have HB := Lib.hid (fun W (hW : Ext wr W) => (cells_drop (HL.out.cells) (k := 0) (by omega) hlL hcapO).ext (hEs.trans hW))
          have hLall := HRows.out.all
          have hM1 : ∀ u ∈ L.take 0, u.oneCell' = true := fun u hu => hLall u (List.mem_of_mem_take hu)
          have hM2 : ∀ u ∈ L.drop 0, u.oneCell' = true := fun u hu => hLall u (List.mem_of_mem_drop hu)
          have hM3 : ∀ u ∈ [(Value.slice aoY nY cY)], u.oneCell' = true := by intro u hu; rw [List.mem_singleton] at hu; subst hu; exact HRy.out.one
          have hn1 : (L.take 0).length ≤ 1000000000000 := by rw [List.length_take]; omega
          have hn2 : (L.take 0).length + [(Value.slice aoY nY cY)].length ≤ 1000000000000 := by rw [List.length_take, List.length_singleton]; omega
          have hn3 : (L.take 0 ++ [(Value.slice aoY nY cY)]).length + (L.drop 0).length ≤ 1000000000000 := by rw [List.length_append, List.length_take, List.length_singleton, List.length_drop]; omega
          have K1 := fun W (hW : Ext wr W) => HKy.out W (hEs.trans hW)
          have hRows2 := Lib.hid (((HRows.out.take 0).append (RowsB.one HRy.out)).append (HRows.out.drop 0))
          have Hin : Hid (isA (A.take (i + 1)) = O.take 0 ++ [aI] ++ O.drop 0) := Lib.hid (by rw [HIs.out]; unfold insA; rw [HKk.out]; try rfl)
          obtain ⟨M1, hMd1⟩ : ∃ M, M = L.take 0 := ⟨_, rfl⟩
          obtain ⟨M2, hMd2⟩ : ∃ M, M = L.drop 0 := ⟨_, rfl⟩
          rw [← hMd1] at HA hM1 hn1 hn2 hn3 hRows2
          rw [← hMd2] at HB hM2 hn3 hRows2
          clear hMd1 hMd2 hLall hlL
          have hE := Ext.refl wr
          go_wp2_with fail
          first | (go_region_held3 (fun W => Ext wr W ∧ W.cell? ⟨gA, i, none⟩ = some (Value.slice aoY nY cY)) (exact ⟨(by repeat (first | (with_reducible assumption) | (with_reducible exact Ext.refl _) | (with_reducible apply Ext.drew) | (with_reducible apply Ext.alloc) | (with_reducible (apply And.left; assumption)))), K1 _ (by repeat (first | (with_reducible assumption) | (with_reducible exact Ext.refl _) | (with_reducible apply Ext.drew) | (with_reducible apply Ext.alloc) | (with_reducible (apply And.left; assumption))))⟩) (first | (have hOq := hOD; (refine step_appendsL slV rfl _ _ rfl wr vD (tailV aoO O.length cO 0) (M1 ++ [(Value.slice aoY nY cY)]) M2 (by repeat (first | (with_reducible exact hOD) | (with_reducible apply OwnL.alloc) | (with_reducible apply OwnL.drew))) (HB.out _ (by repeat (first | (with_reducible assumption) | (with_reducible exact Ext.refl _) | (with_reducible apply Ext.drew) | (with_reducible apply Ext.alloc) | (with_reducible (apply And.left; assumption))))) hM2 (by repeat (first | (with_reducible assumption) | (with_reducible exact Ext.refl _) | (with_reducible apply Ext.drew) | (with_reducible apply Ext.alloc) | (with_reducible (apply And.left; assumption)))) hn3 rfl rfl ?_); intro vF wF hOF hGF hNF hXF) | (have hOq := hOC; (refine step_appendsL slV rfl _ _ rfl wr vC _ M1 [(Value.slice aoY nY cY)] (by repeat (first | (with_reducible exact hOC) | (with_reducible apply OwnL.alloc) | (with_reducible apply OwnL.drew))) (cellsAt_blk (TE := 22) (by first | (with_reducible exact Blk.new _ _ _) | (refine Blk.grown ?_ hXCC (by intro k hk; have hk2 := Option.some.inj hk; omega); refine Blk.drew ?_; first | (refine Blk.new' ?_; simp; done) | (refine Blk.alloc ?_ _; exact Blk.new _ _ _)))) hM3 (by repeat (first | (with_reducible assumption) | (with_reducible exact Ext.refl _) | (with_reducible apply Ext.drew) | (with_reducible apply Ext.alloc) | (with_reducible (apply And.left; assumption)))) hn2 rfl rfl ?_); intro vD wD hOD hGD hND hXD) | ((refine step_copyL slV rfl _ _ rfl _ (.slice aoO 0 cO) M1 rfl rfl ?_ ?_ hM1 wr ?_ ?_ hn1 ?_); (focus (repeat (first | (with_reducible assumption) | (with_reducible exact Blk.new _ _ _) | ((with_reducible refine Blk.new' ?_); first | rfl | (simp [go_sem]; done)) | (with_reducible apply Blk.alloc) | (with_reducible apply Blk.drew)))); (exact HA.out _ (by repeat (first | (with_reducible assumption) | (with_reducible exact Ext.refl _) | (with_reducible apply Ext.drew) | (with_reducible apply Ext.alloc) | (with_reducible (apply And.left; assumption))))); (focus (first | exact Nat.le_refl _ | omega | (simp; omega))); (exact (by repeat (first | (with_reducible assumption) | (with_reducible exact Ext.refl _) | (with_reducible apply Ext.drew) | (with_reducible apply Ext.alloc) | (with_reducible (apply And.left; assumption))))); (intro vC wC hOC hXC hXCC)))) | (fail "the region")
          all_goals
            go_wp2_with fail
            go_roundw
            case rel => exact ⟨i + 1, by omega, by go_num, by rw [Hin.out]; exact (ownC_of hOF (hRows2.out.ext (hEs.trans hXF))).mono (HE06.out.trans (HE6.out.trans hEq)), hEq.trans hXF⟩
            case measure => (simp [intOf]; omega)
        · have hk1 : (0 : Int) < (k : Int) := by omega
          have hkn : 0 < k := by omega
          obtain ⟨gO, uO, rfl, hcu, hRu⟩ := HcO.out (k - 1) (by omega)
          have ix1 : ∀ W, (Instr.indexAt 107 (.slice (some ⟨gO, 0, none⟩) O.length cO) (.int .i64 ((k : Int) - 1))).run Tryz.prog W = .ok (.pointer (some ⟨gO, k - 1, none⟩)) W := fun W => by rw [show ((k : Int) - 1) = ((k - 1 : Nat) : Int) by omega]; exact rowV_ix elV szV gO O.length cO (k - 1) W (by omega)
          have kA := fun U => HKy.out _ (hEs.trans (lat_ext wr U))
          have kO := fun U => (hEs.trans (lat_ext wr U)).cell hcu
          have cB := fun W (hW : Ext wo W) => sBefore_any _ uO aI (O.getD (k - 1) []) W (HRy.out.ext hW).ints (hRu.ext hW).ints
          have Hdn := Lib.hid (fun h => insK_down (x := aI) (o := O) (k := k - 1) h)
          have Hst := Lib.hid (fun h => insK_stop (x := aI) (o := O) (k := k - 1) h)
          rw [show k - 1 + 1 = k by omega] at Hdn Hst
          have hEb := hEs
          have hE := Ext.refl wr
          by_cases hd : cmpA aI (O.getD (k - 1) []) < 0
          · have Hn : Hid (insK aI O O.length = insK aI O (k - 1)) := Lib.hid (by rw [HKk.out, Hdn.out hd])
            simp only [decide_eq_true hd] at cB
            clear hd hEs hEs0
            go_wp2_with fail
            (refine wp_region_lat (wr) (by kernel_rfl) (by kernel_rfl) hE ?_); (repeat (go_big_quiet_step (first | (go_at_call 217; with_reducible exact Calls.lat (cB _ (hEb.trans (lat_ext wr _))))))); (refine wpQuiet_nil ?_); (intro W hE'); (replace hE := lat_of hE'); (clear hE')
            go_wp2_with fail
            go_roundw
            case rel => exact ⟨k - 1, by omega, by congr 1; omega, Hn, hEb.trans hE⟩
            case measure => (simp [intOf]; omega)
          · have HK2 : Hid (insK aI O O.length = k) := Lib.hid (by rw [HKk.out, Hst.out hd])
            simp only [decide_eq_false hd] at cB
            clear hd hEs hEs0
            go_wp2_with fail
            (refine wp_region_lat (wr) (by kernel_rfl) (by kernel_rfl) hE ?_); (repeat (go_big_quiet_step (first | (go_at_call 217; with_reducible exact Calls.lat (cB _ (hEb.trans (lat_ext wr _))))))); (refine wpQuiet_nil ?_); (intro W hE'); (replace hE := lat_of hE'); (clear hE')
            have hEs := hEb.trans hE
            have HKk := HK2
            clear hE
            rename World => wr
            have hsl := fun W => run_cut (P := Tryz.prog) elV szV (some ⟨gO, 0, none⟩) O.length cO (k : Int) (by omega) (by omega) W
            have hsa := fun W => run_cutAt (P := Tryz.prog) elV szV (some ⟨gO, 0, none⟩) O.length cO (k : Int) (by omega) (by omega) W
            have hfl := fun W => run_cutFrom (P := Tryz.prog) elV szV (some ⟨gO, 0, none⟩) O.length cO (k : Int) (by omega) (by omega) W
            have hfa := fun W => run_cutFromAt (P := Tryz.prog) elV szV (some ⟨gO, 0, none⟩) O.length cO (k : Int) (by omega) (by omega) W
            rw [show ((k : Int) : Int).toNat = k by omega] at hsl hsa hfl hfa
            have hEq := HEr.out.trans hEs
            have hlL : L.length = O.length := HRows.out.1
            have HA := Lib.hid (fun W (hW : Ext wr W) => (cells_take (HL.out.cells) (k := k) (by omega) hlL).ext (hEs.trans hW))
            have HB := Lib.hid (fun W (hW : Ext wr W) => (cells_drop (HL.out.cells) (k := k) (by omega) hlL hcapO).ext (hEs.trans hW))
            have hLall := HRows.out.all
            have hM1 : ∀ u ∈ L.take k, u.oneCell' = true := fun u hu => hLall u (List.mem_of_mem_take hu)
            have hM2 : ∀ u ∈ L.drop k, u.oneCell' = true := fun u hu => hLall u (List.mem_of_mem_drop hu)
            have hM3 : ∀ u ∈ [(Value.slice aoY nY cY)], u.oneCell' = true := by intro u hu; rw [List.mem_singleton] at hu; subst hu; exact HRy.out.one
            have hn1 : (L.take k).length ≤ 1000000000000 := by rw [List.length_take]; omega
            have hn2 : (L.take k).length + [(Value.slice aoY nY cY)].length ≤ 1000000000000 := by rw [List.length_take, List.length_singleton]; omega
            have hn3 : (L.take k ++ [(Value.slice aoY nY cY)]).length + (L.drop k).length ≤ 1000000000000 := by rw [List.length_append, List.length_take, List.length_singleton, List.length_drop]; omega
            have K1 := fun W (hW : Ext wr W) => HKy.out W (hEs.trans hW)
            have hRows2 := Lib.hid (((HRows.out.take k).append (RowsB.one HRy.out)).append (HRows.out.drop k))
            have Hin : Hid (isA (A.take (i + 1)) = O.take k ++ [aI] ++ O.drop k) := Lib.hid (by rw [HIs.out]; unfold insA; rw [HKk.out]; try rfl)
            obtain ⟨M1, hMd1⟩ : ∃ M, M = L.take k := ⟨_, rfl⟩
            obtain ⟨M2, hMd2⟩ : ∃ M, M = L.drop k := ⟨_, rfl⟩
            rw [← hMd1] at HA hM1 hn1 hn2 hn3 hRows2
            rw [← hMd2] at HB hM2 hn3 hRows2
            clear hMd1 hMd2 hLall hlL
            have hE := Ext.refl wr
            go_wp2_with fail
            first | (go_region_held3 (fun W => Ext wr W ∧ W.cell? ⟨gA, i, none⟩ = some (Value.slice aoY nY cY)) (exact ⟨(by repeat (first | (with_reducible assumption) | (with_reducible exact Ext.refl _) | (with_reducible apply Ext.drew) | (with_reducible apply Ext.alloc) | (with_reducible (apply And.left; assumption)))), K1 _ (by repeat (first | (with_reducible assumption) | (with_reducible exact Ext.refl _) | (with_reducible apply Ext.drew) | (with_reducible apply Ext.alloc) | (with_reducible (apply And.left; assumption))))⟩) (first | (have hOq := hOD; (refine step_appendsL slV rfl _ _ rfl wr vD (tailV (some ⟨gO, 0, none⟩) O.length cO k) (M1 ++ [(Value.slice aoY nY cY)]) M2 (by repeat (first | (with_reducible exact hOD) | (with_reducible apply OwnL.alloc) | (with_reducible apply OwnL.drew))) (HB.out _ (by repeat (first | (with_reducible assumption) | (with_reducible exact Ext.refl _) | (with_reducible apply Ext.drew) | (with_reducible apply Ext.alloc) | (with_reducible (apply And.left; assumption))))) hM2 (by repeat (first | (with_reducible assumption) | (with_reducible exact Ext.refl _) | (with_reducible apply Ext.drew) | (with_reducible apply Ext.alloc) | (with_reducible (apply And.left; assumption)))) hn3 rfl rfl ?_); intro vF wF hOF hGF hNF hXF) | (have hOq := hOC; (refine step_appendsL slV rfl _ _ rfl wr vC _ M1 [(Value.slice aoY nY cY)] (by repeat (first | (with_reducible exact hOC) | (with_reducible apply OwnL.alloc) | (with_reducible apply OwnL.drew))) (cellsAt_blk (TE := 22) (by first | (with_reducible exact Blk.new _ _ _) | (refine Blk.grown ?_ hXCC (by intro k hk; have hk2 := Option.some.inj hk; omega); refine Blk.drew ?_; first | (refine Blk.new' ?_; simp; done) | (refine Blk.alloc ?_ _; exact Blk.new _ _ _)))) hM3 (by repeat (first | (with_reducible assumption) | (with_reducible exact Ext.refl _) | (with_reducible apply Ext.drew) | (with_reducible apply Ext.alloc) | (with_reducible (apply And.left; assumption)))) hn2 rfl rfl ?_); intro vD wD hOD hGD hND hXD) | ((refine step_copyL slV rfl _ _ rfl _ (.slice (some ⟨gO, 0, none⟩) k cO) M1 rfl rfl ?_ ?_ hM1 wr ?_ ?_ hn1 ?_); (focus (repeat (first | (with_reducible assumption) | (with_reducible exact Blk.new _ _ _) | ((with_reducible refine Blk.new' ?_); first | rfl | (simp [go_sem]; done)) | (with_reducible apply Blk.alloc) | (with_reducible apply Blk.drew)))); (exact HA.out _ (by repeat (first | (with_reducible assumption) | (with_reducible exact Ext.refl _) | (with_reducible apply Ext.drew) | (with_reducible apply Ext.alloc) | (with_reducible (apply And.left; assumption))))); (focus (first | exact Nat.le_refl _ | omega | (simp; omega))); (exact (by repeat (first | (with_reducible assumption) | (with_reducible exact Ext.refl _) | (with_reducible apply Ext.drew) | (with_reducible apply Ext.alloc) | (with_reducible (apply And.left; assumption))))); (intro vC wC hOC hXC hXCC)))) | (fail "the region")
            all_goals
              go_wp2_with fail
              go_roundw
              case rel => exact ⟨i + 1, by omega, by go_num, by rw [Hin.out]; exact (ownC_of hOF (hRows2.out.ext (hEs.trans hXF))).mono (HE06.out.trans (HE6.out.trans hEq)), hEq.trans hXF⟩
              case measure => (simp [intOf]; omega)
    · have hltI : ¬ (i : Int) < (A.length : Int) := by omega
      have hil : i = A.length := by omega
      rw [hil, ← Hfin.out] at hO
      obtain ⟨aoO, cO, rfl, hcapO, hcellO⟩ := hO.shape
      go_wp2_with fail
      exact bodyPost_ret (v := .tuple #[.slice aoO (atS l).length cO, .bool true]) (by simp [results, Tryz.results191, go_sem]) rfl ⟨_, rfl, hO, hE0.trans (HE6.out.trans hEr)⟩
end Go.Zz

/- The search for atoms: what the program does at each sequence. -/
namespace Go.Zz
open Go.RowKit Go.Proofs
set_option maxHeartbeats 2000000
set_option maxRecDepth 8000

theorem negF_zero {l : List Int} (h : isGrp l = true) : negF l 0 = 0 := by
  have ho := isGrp_ords h
  have h1 := addF_neg l ho 0
  rwa [addF_zero l ho _ (negF_lt l ho 0)] at h1
theorem sort_snoc {X : List Nat} {z : Nat} (h : sortB (castL X) = true) (hz : X.length ≠ 0 → nthN X (X.length - 1) ≤ z) : sortB (castL (X ++ [z])) = true := by
  rw [sortB_iff] at h ⊢
  intro j h0 hj
  rw [castL_len, List.length_append, List.length_singleton] at hj
  rw [nth_castL, nth_castL]
  by_cases e : j < X.length
  · have := h j h0 (by rw [castL_len]; exact e)
    rw [nth_castL, nth_castL] at this
    have e1 : nthN (X ++ [z]) (j - 1) = nthN X (j - 1) := by simp [nthN, List.getD, List.getElem?_append_left (show j - 1 < X.length by omega)]
    have e2 : nthN (X ++ [z]) j = nthN X j := by simp [nthN, List.getD, List.getElem?_append_left e]
    rw [e1, e2]; exact this
  · have ej : j = X.length := by omega
    have e1 : nthN (X ++ [z]) (j - 1) = nthN X (X.length - 1) := by
      subst ej; simp [nthN, List.getD, List.getElem?_append_left (show X.length - 1 < X.length by omega)]
    have e2 : nthN (X ++ [z]) j = z := by subst ej; simp [nthN, List.getD]
    rw [e1, e2]
    have := hz (by omega)
    omega
theorem zs_snoc {l : List Int} (hg : isGrp l = true) {X : List Nat} (hX : ∀ x ∈ X, x < ord l) (hl : X.length ≤ 11) (hs : sortB (castL (X ++ [atZ l X])) = true) : zsB l (castL (X ++ [atZ l X])) = true := by
  have hz : atZ l X < ord l := negF_lt l (isGrp_ords hg) _
  have hq : seqB l (castL (X ++ [atZ l X])) = true := by
    unfold seqB
    rw [hg, hs]
    have h1 : (castL (X ++ [atZ l X])).all (hasB l) = true := by
      rw [List.all_eq_true]
      intro y hy
      obtain ⟨n, hn, rfl⟩ := List.mem_map.1 hy
      rw [List.mem_append, List.mem_singleton] at hn
      refine hasB_of hg ?_
      rcases hn with hn | rfl
      · exact hX n hn
      · exact hz
    rw [h1]
    have h2 : (castL (X ++ [atZ l X])).length ≤ 12 := by rw [castL_len, List.length_append, List.length_singleton]; omega
    simp [h2]
  rw [zsB_yes hq, tot_snoc]
  have : addF l (tot l X) (atZ l X) = 0 := addF_neg l (isGrp_ords hg) _
  rw [this]; rfl
/-- the last term, 0 where there is none -/
def lstN (X : List Nat) : Nat := if X.length = 0 then 0 else nthN X (X.length - 1)
/-- what the program asks is what the reference asks -/
theorem atC_prog {l : List Int} (hg : isGrp l = true) {X : List Nat} (hX : ∀ x ∈ X, x < ord l) (hl : X.length ≤ 11) (hs : sortB (castL X) = true) :
    atC l X (lstN X) = ((decide (X.length = 0) || decide (nthN X (X.length - 1) ≤ atZ l X)) && atmB l (castL (X ++ [atZ l X]))) := by
  unfold atC lstN
  by_cases h0 : X.length = 0
  · have hXn : X = [] := List.eq_nil_of_length_eq_zero h0
    subst hXn
    have hz : atZ l [] = 0 := negF_zero hg
    have hzs := zs_snoc hg hX hl (sort_snoc hs (fun h => absurd rfl h))
    rw [atmB_yes hzs (by simp), hz]
    simp
  · rw [if_neg h0, decide_eq_false h0, Bool.false_or]
    have hnd : decide (X.length ≠ 0) = true := decide_eq_true h0
    rw [hnd, Bool.true_or, Bool.and_true]
    by_cases h1 : nthN X (X.length - 1) ≤ atZ l X
    · have hzs := zs_snoc hg hX hl (sort_snoc hs (fun _ => h1))
      rw [atmB_yes hzs (by simp)]
    · rw [decide_eq_false h1]; rfl
end Go.Zz

/- The search for atoms: the closure that the program calls at each sequence. -/
namespace Go.Zz
open Go.RowKit Go.Proofs
set_option maxHeartbeats 4000000
set_option maxRecDepth 8000

/-- the row of atoms in its box, behind a step -/
def OutP (w0 : World) (bO : Nat) (w : World) (vo : Value) (A : List (List Nat)) (vo' : Value) (w' : World) : Prop := Blk w' bO 107 #[vo'] ∧ OwnC w0 w' vo' A ∧ Fr bO vo.ownBlock w w' ∧ Nw vo.ownBlock w vo'.ownBlock
theorem ownC_more2 {w0 w W w' : World} {v v' y : Value} {A : List (List Nat)} {a : List Nat} {L : List Value} (hR : RowsB w L A) (hO5 : OwnL 22 w0 W v L) (hE : Ext w W) (hy : RowB W y a) (hO : OwnL 22 w0 w' v' (L ++ [y])) (hG : W.grownBy w' v.ownBlock) : OwnC w0 w' v' (A ++ [a]) :=
  OwnC.more hR.1 hO5 (fun i hi => (hR.ext hE).2 i hi) hy hO hG
theorem OwnC.set_ne {w0 w : World} {v : Value} {A : List (List Nat)} (h : OwnC w0 w v A) {b i : Nat} {cs : Array Value} (hB : Blk w b 107 cs) (u : Value) : OwnC w0 (w.setCell ⟨b, i, none⟩ u) v A := by
  obtain ⟨L, h1, h2, h3⟩ := h
  exact ⟨L, h1, h2.set_ne (h2.not hB (by decide)) u, fun j hj => (h3 j hj).other hB (by decide) i u⟩
theorem visitAt_any (v : Value) (l : List Int) (Hgr : Hid (isGrp l = true)) (w0 : World) (bG bO : Nat) (HG : ∀ W, Ext w0 W → W.cell? ⟨bG, 0, none⟩ = some v) (HI : Hid (∀ W, Ext w0 W → Ints W v l))
    (X : List Nat) (O : List (List Nat)) (S : Int) (vX vo : Value) (w : World) (hw : Ext w0 w) (hX : RowE w vX X) (hB : Blk w bO 107 #[vo]) (hO : OwnC w0 w vo O) (hXl : X.length ≤ 11) (hXo : ∀ x ∈ X, x < ord l) (hs : sortB (castL X) = true) (hO48 : O.length ≤ 48) :
    Calls Tryz.prog 196 #[vX, .int .i64 S, .pointer (some ⟨bG, 0, none⟩), .pointer (some ⟨bO, 0, none⟩)] w fun e w' => e = .returned (.tuple #[]) ∧ ∃ vo', OutP w0 bO w vo (O ++ atV l X (lstN X)) vo' w' := by
  have hob := ord_bd Hgr.out
  have hz : atZ l X < ord l := negF_lt l (isGrp_ords Hgr.out) _
  have hX24 : ∀ x ∈ X, x < 24 := fun x hx => by have := hXo x hx; omega
  have HC := Lib.hid (atC_prog Hgr.out hXo hXl hs)
  have hg : ∀ W, Ext w W → Ints W v l := fun W hW => HI.out W (hw.trans hW)
  have kG : ∀ W, Ext w W → W.cell? ⟨bG, 0, none⟩ = some v := fun W hW => HG W (hw.trans hW)
  have HX := Lib.hid (fun W (hW : Ext w W) => (hX.ext hW).ints)
  have htot := tot_bd Hgr.out X
  have cT := fun W (hW : Ext w W) => total_any v _ l X W (hg W hW) (HX.out W hW) Hgr (Lib.hid hX24)
  have cN := fun W (hW : Ext w W) => negate_any v l (tot l X) W (hg W hW) Hgr (by omega)
  have cA := fun W vy (hW : Ext w W) (hy : Ints W vy (castL (X ++ [atZ l X]))) => IsAtom_any v vy l (castL (X ++ [atZ l X])) W (hg W hW) hy
  obtain ⟨z, hzd⟩ : ∃ z, z = atZ l X := ⟨_, rfl⟩
  have hzd2 : z = negF l (tot l X) := hzd
  rw [← hzd] at hz HC
  simp only [← hzd2] at cN
  simp only [← hzd] at cA
  have Hz := Lib.hid hzd
  obtain ⟨t, ht⟩ : ∃ t, t = tot l X := ⟨_, rfl⟩
  simp only [← ht] at cT cN
  clear hzd hzd2 ht htot
  have hlX : (castL X).length < 17592186044416 := by rw [castL_len]; omega
  have hXl2 : (X ++ [z]).length ≤ 1000 := by simp; omega
  have Hsn := Lib.hid (castL_snoc X z)
  obtain ⟨L, hL, hRows⟩ := hO.rows
  have hLn : L.length < 1000000000000 := by rw [hRows.1]; omega
  have hnb := hO.not hB (by decide)
  obtain ⟨aoO, cO, rfl, hcapO, -⟩ := hO.shape
  have Hne : Hid (∀ k, (Value.slice aoO O.length cO).ownBlock = some k → k ≠ bO) := Lib.hid (fun k hk e => hnb (by rw [hk, e]))
  have kO : ∀ W, Ext w W → W.cell? ⟨bO, 0, none⟩ = some (.slice aoO O.length cO) := fun W hW => (hB.ext hW).cell (i := 0) rfl
  have HL := Lib.hid hL
  have HRows := Lib.hid hRows
  have HO := Lib.hid hO
  have HB := Lib.hid hB
  have HXe := Lib.hid hX
  obtain ⟨aoX, cX, rfl⟩ := hX.shape
  have hlast : X.length ≠ 0 → ∃ adr : Nat → Addr, (∀ W, (Instr.indexAt 22 (.slice aoX X.length cX) (.int .i64 ((X.length : Int) - 1))).run Tryz.prog W = .ok (.pointer (some (adr (X.length - 1)))) W) ∧ (∀ W, Ext w W → W.cell? (adr (X.length - 1)) = some (.int .i64 (nthN X (X.length - 1) : Nat))) := fun h0 => by
    obtain ⟨ao', c', adrX, hvX, hadrX, hcellX⟩ := hX.ints.nats
    have hix := ints_index (c := c') elI szI hadrX
    simp only [Value.slice.injEq] at hvX
    obtain ⟨rfl, -, rfl⟩ := hvX
    refine ⟨adrX, fun W => ?_, fun W hW => hcellX _ W (by omega) hW⟩
    rw [show ((X.length : Int) - 1) = ((X.length - 1 : Nat) : Int) by omega]
    exact hix _ W (by omega)
  clear hX hB hO hL hRows hnb
  have hE := Ext.refl w
  have kU := fun U => kG _ (lat_ext w U)
  by_cases h0 : X.length = 0
  · have hXn : X = [] := List.eq_nil_of_length_eq_zero h0
    have Hcond : Hid ((decide (X.length = 0) || decide (nthN X (X.length - 1) ≤ z)) = true) := Lib.hid (by rw [decide_eq_true h0]; rfl)
    subst hXn
    clear hlast h0
    go_enter Tryz.func196, Tryz.ntmps196
    go_wp2_with fail
    (refine wp_region_lat (w) (by kernel_rfl) (by kernel_rfl) hE ?_); (repeat (go_big_quiet_step (first | (go_at_call 151; with_reducible exact Calls.lat (cT _ (lat_ext w _))) | (go_at_call 197; with_reducible exact Calls.lat (cN _ (lat_ext w _)))))); (refine wpQuiet_nil ?_); (intro W hE'); (replace hE := lat_of hE'); (clear hE')
    rename World => w1
    have kG1 := kG _ hE
    clear kU
    cases ha : atmB l (castL (([] : List Nat) ++ [z]))
    · have Hv : Hid (atV l ([] : List Nat) (lstN ([] : List Nat)) = []) := Lib.hid (by unfold atV; rw [HC.out, Hcond.out, ha]; rfl)
      rw [ha] at cA
      clear ha
      go_wp2_with (first | (go_at_call 86; refine (copyInts_any _ _ _ (HX.out _ hE)).mono ?_; rintro e w3 ⟨v3, rfl, hO3, hE3⟩) | (at_builtin; refine wp_append1 slI rfl _ _ rfl w1 _ _ _ _ hO3 hE3 hlX rfl rfl ?_; intro v4 w4 hO4 hE4; rw [← Hsn.out] at hO4; have hE14 := hE.trans hE4; have kG4 := kG _ hE14; have hI4 := hO4.ints) | (go_at_call 75; refine (cA _ _ hE14 hI4).mono ?_; rintro e w5 ⟨rfl, hE5⟩))
      go_end0
      have hE15 := hE14.trans hE5
      exact ⟨rfl, _, by rw [Hv.out, List.append_nil]; exact ⟨HB.out.ext hE15, HO.out.ext hE15, hE15.fr _ _, Nw.refl _ _⟩⟩
    · have Hv : Hid (atV l ([] : List Nat) (lstN ([] : List Nat)) = [([] : List Nat) ++ [z]]) := Lib.hid (by unfold atV; rw [HC.out, Hcond.out, ha, ← Hz.out]; rfl)
      rw [ha] at cA
      clear ha
      go_wp2_with (first | (go_at_call 86; refine (copyInts_any _ _ _ (HX.out _ hE)).mono ?_; rintro e w3 ⟨v3, rfl, hO3, hE3⟩) | (at_builtin; refine wp_append1 slI rfl _ _ rfl w1 _ _ _ _ hO3 hE3 hlX rfl rfl ?_; intro v4 w4 hO4 hE4; rw [← Hsn.out] at hO4; obtain ⟨ao4, c4, rfl, -⟩ := hO4.shape; have hE14 := hE.trans hE4; have kG4 := kG _ hE14; have hI4 := hO4.ints; have hR4 := rowB_own hO4 (by simp) hXl2) | (go_at_call 75; refine (cA _ _ hE14 hI4).mono ?_; rintro e w5 ⟨rfl, hE5⟩; have hE15 := hE14.trans hE5; have kO5 := kO _ hE15; have hR5 := hR4.ext hE5; have h15 := hR5.one; have hO5 := HL.out.ext hE15; have hX5 := hw.trans hE15; have hB5 := HB.out.ext hE15) | (at_builtin; refine wp_append1L slV rfl _ _ rfl w0 _ _ L _ h15 hO5 hX5 hLn rfl rfl ?_; intro v6 w6 hO6 hG6 hN6; have hB6 := hB5.grown hG6 Hne.out; have hc6 := hB6.cell (i := 0) (v := .slice aoO O.length cO) rfl; have hf6 := hB6.free 0; obtain ⟨a6, c6, rfl, -⟩ := hO6.shape))
      go_end0
      have hC6 := ownC_more2 HRows.out hO5 hE15 hR5 hO6 hG6
      rw [List.length_append, List.length_singleton] at hN6 hC6
      refine ⟨rfl, _, hB6.set 0 _, ?_, ((hE15.fr bO _).trans (Nw.refl _ _) (fr_grown hG6)).trans ((Nw.refl _ _).trans (Nat.le_refl _) (Nw.refl _ _)) (fr_set bO _ w6 0 _), (Nw.refl _ _).trans hE15.size hN6⟩
      rw [Hv.out]
      exact hC6.set_ne hB6 _
  · have hl0 : (0 : Int) < ((X.length : Nat) : Int) := by omega
    have hlq : (((X.length : Nat) : Int) == 0) = false := by rw [beq_eq_false_iff_ne]; omega
    have hXn : X ≠ [] := fun e => h0 (by rw [e]; rfl)
    obtain ⟨adrX, hixL, hckL⟩ := hlast h0
    have hd0 : decide (X.length = 0) = false := decide_eq_false h0
    rw [hd0, Bool.false_or] at HC
    obtain ⟨la, hla⟩ : ∃ y, y = nthN X (X.length - 1) := ⟨_, rfl⟩
    rw [← hla] at HC
    simp only [← hla] at hckL
    have Hl0 := Lib.hid h0
    clear hla hlast h0 hd0
    go_enter Tryz.func196, Tryz.ntmps196
    go_wp2_with fail
    (refine wp_region_lat (w) (by kernel_rfl) (by kernel_rfl) hE ?_); (repeat (go_big_quiet_step (first | (go_at_call 151; with_reducible exact Calls.lat (cT _ (lat_ext w _))) | (go_at_call 197; with_reducible exact Calls.lat (cN _ (lat_ext w _)))))); (refine wpQuiet_nil ?_); (intro W hE'); (replace hE := lat_of hE'); (clear hE')
    rename World => w1
    have kG1 := kG _ hE
    have ck1 := hckL _ hE
    clear kU hckL
    by_cases hz1 : la ≤ z
    · have hzI : (la : Int) ≤ (z : Int) := by omega
      have Hcond : Hid (decide (la ≤ z) = true) := Lib.hid (decide_eq_true hz1)
      clear hz1
      cases ha : atmB l (castL (X ++ [z]))
      · have Hv : Hid (atV l X (lstN X) = []) := Lib.hid (by unfold atV; rw [HC.out, Hcond.out, ha]; rfl)
        rw [ha] at cA
        clear ha
        go_wp2_with (first | (go_at_call 86; refine (copyInts_any _ _ _ (HX.out _ hE)).mono ?_; rintro e w3 ⟨v3, rfl, hO3, hE3⟩) | (at_builtin; refine wp_append1 slI rfl _ _ rfl w1 _ _ _ _ hO3 hE3 hlX rfl rfl ?_; intro v4 w4 hO4 hE4; rw [← Hsn.out] at hO4; have hE14 := hE.trans hE4; have kG4 := kG _ hE14; have hI4 := hO4.ints) | (go_at_call 75; refine (cA _ _ hE14 hI4).mono ?_; rintro e w5 ⟨rfl, hE5⟩))
        go_end0
        have hE15 := hE14.trans hE5
        exact ⟨rfl, _, by rw [Hv.out, List.append_nil]; exact ⟨HB.out.ext hE15, HO.out.ext hE15, hE15.fr _ _, Nw.refl _ _⟩⟩
      · have Hv : Hid (atV l X (lstN X) = [X ++ [z]]) := Lib.hid (by unfold atV; rw [HC.out, Hcond.out, ha, ← Hz.out]; rfl)
        rw [ha] at cA
        clear ha
        go_wp2_with (first | (go_at_call 86; refine (copyInts_any _ _ _ (HX.out _ hE)).mono ?_; rintro e w3 ⟨v3, rfl, hO3, hE3⟩) | (at_builtin; refine wp_append1 slI rfl _ _ rfl w1 _ _ _ _ hO3 hE3 hlX rfl rfl ?_; intro v4 w4 hO4 hE4; rw [← Hsn.out] at hO4; obtain ⟨ao4, c4, rfl, -⟩ := hO4.shape; have hE14 := hE.trans hE4; have kG4 := kG _ hE14; have hI4 := hO4.ints; have hR4 := rowB_own hO4 (by simp) hXl2) | (go_at_call 75; refine (cA _ _ hE14 hI4).mono ?_; rintro e w5 ⟨rfl, hE5⟩; have hE15 := hE14.trans hE5; have kO5 := kO _ hE15; have hR5 := hR4.ext hE5; have h15 := hR5.one; have hO5 := HL.out.ext hE15; have hX5 := hw.trans hE15; have hB5 := HB.out.ext hE15) | (at_builtin; refine wp_append1L slV rfl _ _ rfl w0 _ _ L _ h15 hO5 hX5 hLn rfl rfl ?_; intro v6 w6 hO6 hG6 hN6; have hB6 := hB5.grown hG6 Hne.out; have hc6 := hB6.cell (i := 0) (v := .slice aoO O.length cO) rfl; have hf6 := hB6.free 0; obtain ⟨a6, c6, rfl, -⟩ := hO6.shape))
        go_end0
        have hC6 := ownC_more2 HRows.out hO5 hE15 hR5 hO6 hG6
        rw [List.length_append, List.length_singleton] at hN6 hC6
        refine ⟨rfl, _, hB6.set 0 _, ?_, ((hE15.fr bO _).trans (Nw.refl _ _) (fr_grown hG6)).trans ((Nw.refl _ _).trans (Nat.le_refl _) (Nw.refl _ _)) (fr_set bO _ w6 0 _), (Nw.refl _ _).trans hE15.size hN6⟩
        rw [Hv.out]
        exact hC6.set_ne hB6 _
    · have hzI : ¬ (la : Int) ≤ (z : Int) := by omega
      have Hv : Hid (atV l X (lstN X) = []) := Lib.hid (by unfold atV; rw [HC.out, decide_eq_false hz1]; rfl)
      clear hz1
      go_wp2_with fail
      go_end0
      exact ⟨rfl, _, by rw [Hv.out, List.append_nil]; exact ⟨HB.out.ext hE, HO.out.ext hE, hE.fr _ _, Nw.refl _ _⟩⟩
end Go.Zz

/- Longest sequences no part of which has the sum zero: the program. -/
namespace Go.Zz
open Go.RowKit Go.Proofs
set_option maxHeartbeats 2000000
set_option maxRecDepth 8000

/-- a row of ints stays where a call writes into a box of slices alone -/
theorem Ints.fw {w w' : World} {v : Value} {l : List Int} {b : Nat} {T : TypeId} {ao : Option Addr} {n c : Nat} (h : Ints w v l) (hB : Blk w b T #[.slice ao n c]) (hF : Fw (fun k => k = b) w w') : Ints w' v l := by
  obtain ⟨a, k, rfl, h1, h2, h3⟩ := h
  refine ⟨a, k, rfl, h1, h2, fun i hi => ?_⟩
  obtain ⟨p, rfl, hc⟩ := h3 i hi
  refine ⟨p, rfl, ?_⟩
  have hlt := World.block_lt_of_cell? w _ hc
  have hne : (p.add i).block ≠ b := fun e => by
    have hB' : w.heap[b]? = some (.cells #[.slice ao n c] T (0, 0)) := hB
    have h0 := hc
    unfold World.cell? at h0
    rw [e, hB'] at h0
    simp only at h0
    split at h0
    · cases h0
    · cases hq : (p.add i).off with
      | zero => rw [hq] at h0; simp at h0
      | succ j => rw [hq] at h0; simp at h0
  rw [World.cell?_of_block (w := w) (hF.block _ hlt hne)]; exact hc
/-- the block of the best one so far -/
def Bx (b : Nat) (k : Nat) : Prop := k = b
/-- the term to go on from -/
def frm (X : List Nat) : Nat := if X.length = 0 then 1 else nthN X (X.length - 1)
theorem frm_snoc (X : List Nat) (k : Nat) : frm (X ++ [k]) = k := by
  unfold frm; simp [nthN, List.getD]
theorem zfI_in {l : List Int} (hg : isGrp l = true) (f : Nat) (X : List Nat) (S m : Nat) (b : List Nat) (hS : S < 2 ^ ord l) (h0 : S.testBit 0 = false) (hX : ∀ x ∈ X, x < ord l) (hl : X.length ≤ cnt S) (hb : b.length ≤ 24) : (zfI l f X S m b).length ≤ 24 := by
  rw [zfI_eq]
  split
  · exact (zfS_in hg f X S m hS h0 hX hl).2
  · exact hb
end Go.Zz
