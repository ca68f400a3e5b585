/- Automorphisms: IsAutomorphism of both. -/
import Derived.Test.YtpjpfpmapdjnaaaGr11
import Derived.Test.YtpjpfpmapdjnaaaGr5
import Derived.Test.YtpjpfpmapdjnaaaGr6
import Derived.Test.YtpjpfpmapdjnaaaGr4
import Derived.Test.YtpjpfpmapdjnaaaGr1
import Derived.Test.YtpjpfpmapdjnaaaGr10
import Derived.Deep.RegionHeld3
import Derived.Laws.EntriesVeiled
namespace Go.Zz
open Go.RowKit Go.Proofs
set_option maxHeartbeats 4000000
set_option maxRecDepth 8000

theorem IsAutomorphism_list (v : Value) (l : List Int) (vF : Value) (F : List Nat) (w : World) (h : Ints w v l) (hF : Ints w vF (castL F)) (Hgr : Hid (isGrp l = true)) (hlen : F.length = ord l) (hlt : ∀ y ∈ F, y < ord l) :
    Calls Try.prog 62 #[.agg #[v], vF] w fun e w' => e = .returned (.bool (autB l F)) ∧ Ext w w' := by
  obtain ⟨wb, hwb⟩ : ∃ wb, wb = w.alloc (.cells #[v] 27) := ⟨_, rfl⟩
  have hE0 := (Ext.refl w).alloc (.cells #[v] 27)
  have hb := box_cell w v 27
  rw [← hwb] at hE0 hb
  have hg : ∀ W, Ext wb W → Ints W v l := fun W hW => h.ext (hE0.trans hW)
  have hE := Ext.refl wb
  have Hsz : Hid (w.heap.size + 1 = wb.heap.size) := Lib.hid (by rw [hwb]; simp [go_sem])
  have Hwb := Lib.hid hwb
  clear hwb h
  have HFx := Lib.hid (fun W (hW : Ext wb W) => hF.ext (hE0.trans hW))
  obtain ⟨aoF, cF, adrF, rfl, hadrF, hcellF⟩ := hF.nats
  have cSo := fun W (hW : Ext wb W) => SetOf_any v l _ (castL F) W (hg W hW) (HFx.out W hW)
  have hixF := ints_index (c := cF) elI szI hadrF
  clear hadrF hF HFx
  have ob := ord_bd Hgr.out
  have Hadd : Hid (∀ x y, addF l x y < F.length) := Lib.hid fun x y => by rw [hlen]; exact addF_lt l (isGrp_ords Hgr.out) x y
  have Hlt : Hid (∀ i, i < F.length → nthN F i < 24) := Lib.hid fun i hi => by have := hlt _ (nthN_mem hi); omega
  have hl24 : F.length ≤ 24 := by omega
  have Ha0 : Hid (autB l F = (soB l (castL F) && (decide (soV l (castL F) = (fullN l : Int)) && homB l F))) := Lib.hid rfl
  have Hlen := Lib.hid hlen
  obtain ⟨S, hS⟩ : ∃ S, S = soV l (castL F) := ⟨_, rfl⟩
  obtain ⟨o, ho⟩ : ∃ o, o = soB l (castL F) := ⟨_, rfl⟩
  simp only [← hS, ← ho] at cSo Ha0
  clear hS ho hlt
  have cFu := fun W (hW : Ext wb W) => FullSet_grp v l W (hg W hW) Hgr
  obtain ⟨N, hN⟩ : ∃ N, N = fullN l := ⟨_, rfl⟩
  simp only [← hN] at cFu Ha0
  clear hN hlen
  cases o
  · have Ha : Hid (autB l F = false) := Lib.hid (by rw [Ha0.out]; rfl)
    clear Ha0
    go_enter Try.func62, Try.ntmps62
    go_wp2_with fail
    rw [← Hwb.out]
    go_wp2_with (go_at_call 82; refine (cSo _ hE).mono ?_; rintro e w1 ⟨rfl, hE1⟩)
    go_ret
    exact ⟨ret_bool Ha.out.symm, hE0.trans hE1⟩
  · cases hq : decide (S = (N : Int))
    · have Ha : Hid (autB l F = false) := Lib.hid (by rw [Ha0.out, hq]; rfl)
      have hqn : (S != (N : Int)) = true := by rw [bne_iff_ne]; exact of_decide_eq_false hq
      clear Ha0 hq
      go_enter Try.func62, Try.ntmps62
      go_wp2_with fail
      rw [← Hwb.out]
      go_wp2_with (first | (go_at_call 82; refine (cSo _ hE).mono ?_; rintro e w1 ⟨rfl, hE1⟩; have hb1 := hb _ hE1) | (go_at_call 83; refine (cFu _ hE1).mono ?_; rintro e w2 ⟨rfl, hE2⟩))
      go_ret
      exact ⟨ret_bool Ha.out.symm, hE0.trans (hE1.trans hE2)⟩
    · have Ha : Hid (autB l F = homB l F) := Lib.hid (by rw [Ha0.out, hq]; rfl)
      have hqn : (S != (N : Int)) = false := by have := of_decide_eq_true hq; rw [this]; simp
      clear Ha0 hq
      go_enter Try.func62, Try.ntmps62
      go_wp2_with fail
      rw [← Hwb.out]
      go_wp2_with (first | (go_at_call 82; refine (cSo _ hE).mono ?_; rintro e w1 ⟨rfl, hE1⟩; have hb1 := hb _ hE1) | (go_at_call 83; refine (cFu _ hE1).mono ?_; rintro e w2 ⟨rfl, hE2⟩))
      replace hE := hE1.trans hE2
      clear hE1 hE2 hb1 cSo cFu hqn
      go_loopw [25] (fun iv wr => ∃ i : Nat, i ≤ F.length ∧ iv = .int .i64 i ∧ Ext wb wr ∧ Hid (∀ i', i' < i → ∀ j, j < F.length → hmE l F i' j = true)) (fun iv _ => F.length - (intOf iv).toNat)
      case atStart => exact ⟨0, by omega, rfl, hE, Lib.hid (by omega)⟩
      case round =>
        clear hE
        obtain ⟨i, hi, rfl, hE, H1⟩ := hrel
        by_cases hit : i < F.length
        · go_wp2_with fail
          go_loopw [30] (fun jv wq => ∃ j : Nat, j ≤ F.length ∧ jv = .int .i64 j ∧ Ext wb wq ∧ Hid (∀ j', j' < j → hmE l F i j' = true)) (fun jv _ => F.length - (intOf jv).toNat)
          case atStart => exact ⟨0, by omega, rfl, hE, Lib.hid (by omega)⟩
          case round =>
            clear hE
            obtain ⟨j, hj, rfl, hE, H2⟩ := hrel
            by_cases hjt : j < F.length
            · have hst : addF l i j < F.length := Hadd.out i j
              have cS := fun U => hcellF (addF l i j) _ hst (hE0.trans (hE.trans (lat_ext wr U)))
              have cI := fun U => hcellF i _ hit (hE0.trans (hE.trans (lat_ext wr U)))
              have cJ := fun U => hcellF j _ hjt (hE0.trans (hE.trans (lat_ext wr U)))
              have hbU := fun U => hb _ (hE.trans (lat_ext wr U))
              have tI := Hlt.out i hit
              have tJ := Hlt.out j hjt
              have a1 := fun U => add_any v l i j _ (hg _ (hE.trans (lat_ext wr U))) Hgr (by omega) (by omega)
              have a2 := fun U => add_any v l (nthN F i) (nthN F j) _ (hg _ (hE.trans (lat_ext wr U))) Hgr (by omega) (by omega)
              have he : (((nthN F (addF l i j) : Nat) : Int) != ((addF l (nthN F i) (nthN F j) : Nat) : Int)) = !hmE l F i j := by
                unfold hmE
                rw [Bool.eq_iff_iff, bne_iff_ne]; simp; omega
              have hEb := hE
              clear hE
              have hE := Ext.refl wr
              cases eh : hmE l F i j
              · have Hk : Hid (homB l F = false) := Lib.hid (homB_no (Hlen.out ▸ hit) (Hlen.out ▸ hjt) eh)
                rw [eh] at he
                clear eh
                go_wp2_with fail
                (refine wp_region_lat (wr) (by kernel_rfl) (by kernel_rfl) hE ?_); (repeat (go_big_quiet_step (first | (go_at_call 60; first | with_reducible exact Calls.lat (a1 _) | with_reducible exact Calls.lat (a2 _))))); (refine wpQuiet_nil ?_); (intro W hE'); (replace hE := lat_of hE'); (clear hE')
                go_wp2_with fail
                go_ret
                exact ⟨ret_bool (by rw [Ha.out, Hk.out]), hE0.trans (hEb.trans hE)⟩
              · have Hk := Lib.hid eh
                rw [eh] at he
                clear eh
                go_wp2_with fail
                (refine wp_region_lat (wr) (by kernel_rfl) (by kernel_rfl) hE ?_); (repeat (go_big_quiet_step (first | (go_at_call 60; first | with_reducible exact Calls.lat (a1 _) | with_reducible exact Calls.lat (a2 _))))); (refine wpQuiet_nil ?_); (intro W hE'); (replace hE := lat_of hE'); (clear hE')
                go_wp2_with fail
                go_roundw
                case rel => exact ⟨j + 1, by omega, by go_num, hEb.trans hE, Lib.hid fun j' h1 => by by_cases e : j' = j; (subst e; exact Hk.out); exact H2.out j' (by omega)⟩
                case measure => (simp [intOf]; omega)
            · have hjl : j = F.length := by omega
              go_wp2_with fail
              go_roundw
              case rel => exact ⟨i + 1, by omega, by go_num, hE, Lib.hid fun i' h1 j' h2 => by by_cases e : i' = i; (subst e; exact H2.out j' (by omega)); exact H1.out i' (by omega) j' h2⟩
              case measure => (simp [intOf]; omega)
        · have hil : i = F.length := by omega
          have Hk : Hid (homB l F = true) := Lib.hid (homB_iff.2 fun x y hx hy => H1.out x (by rw [hil, Hlen.out]; exact hx) y (by rw [Hlen.out]; exact hy))
          go_wp2_with fail
          go_ret
          exact ⟨ret_bool (by rw [Ha.out, Hk.out]), hE0.trans hE⟩
theorem sIsAutomorphism_list (v : Value) (l : List Int) (vF : Value) (F : List Nat) (w : World) (h : Ints w v l) (hF : Ints w vF (castL F)) (Hgr : Hid (isGrp l = true)) (hlen : F.length = ord l) (hlt : ∀ y ∈ F, y < ord l) :
    Calls Try.prog 52 #[.agg #[v], vF] w fun e w' => e = .returned (.bool (autB l F)) ∧ Ext w w' := by
  obtain ⟨wb, hwb⟩ : ∃ wb, wb = w.alloc (.cells #[v] 27) := ⟨_, rfl⟩
  have hE0 := (Ext.refl w).alloc (.cells #[v] 27)
  have hb := box_cell w v 27
  rw [← hwb] at hE0 hb
  have hg : ∀ W, Ext wb W → Ints W v l := fun W hW => h.ext (hE0.trans hW)
  have hE := Ext.refl wb
  have Hsz : Hid (w.heap.size + 1 = wb.heap.size) := Lib.hid (by rw [hwb]; simp [go_sem])
  have Hwb := Lib.hid hwb
  clear hwb h
  have HFx := Lib.hid (fun W (hW : Ext wb W) => hF.ext (hE0.trans hW))
  obtain ⟨aoF, cF, adrF, rfl, hadrF, hcellF⟩ := hF.nats
  have cSo := fun W (hW : Ext wb W) => sSetOf_any v l _ (castL F) W (hg W hW) (HFx.out W hW)
  have hixF := ints_index (c := cF) elI szI hadrF
  clear hadrF hF HFx
  have ob := ord_bd Hgr.out
  have Hadd : Hid (∀ x y, addF l x y < F.length) := Lib.hid fun x y => by rw [hlen]; exact addF_lt l (isGrp_ords Hgr.out) x y
  have Hlt : Hid (∀ i, i < F.length → nthN F i < 24) := Lib.hid fun i hi => by have := hlt _ (nthN_mem hi); omega
  have hl24 : F.length ≤ 24 := by omega
  have Ha0 : Hid (autB l F = (soB l (castL F) && (decide (soV l (castL F) = (fullN l : Int)) && homB l F))) := Lib.hid rfl
  have Hlen := Lib.hid hlen
  obtain ⟨S, hS⟩ : ∃ S, S = soV l (castL F) := ⟨_, rfl⟩
  obtain ⟨o, ho⟩ : ∃ o, o = soB l (castL F) := ⟨_, rfl⟩
  simp only [← hS, ← ho] at cSo Ha0
  clear hS ho hlt
  have cO := fun W (hW : Ext wb W) => l2Order_any v l W (hg W hW) Hgr
  have hne : (((F.length : Nat) : Int) != ((ord l : Nat) : Int)) = false := by rw [hlen]; simp
  have hs1 := ishl_one (n := ord l) (by omega)
  obtain ⟨N, hN⟩ : ∃ N, N = pw (ord l) := ⟨_, rfl⟩
  have hNb : 1 ≤ N ∧ N ≤ 16777216 := by rw [hN]; exact ⟨pw_pos _, pw_le (by omega)⟩
  have hNf : ((fullN l : Nat) : Int) = (N : Int) - 1 := by unfold fullN; rw [← hN]; omega
  rw [← hN] at hs1
  rw [hNf] at Ha0
  clear hN hNf hlen
  cases o
  · have Ha : Hid (autB l F = false) := Lib.hid (by rw [Ha0.out]; rfl)
    clear Ha0
    go_enter Try.func52, Try.ntmps52
    go_wp2_with fail
    rw [← Hwb.out]
    go_wp2_with (go_at_call 67; refine (cSo _ hE).mono ?_; rintro e w1 ⟨rfl, hE1⟩)
    go_ret
    exact ⟨ret_bool Ha.out.symm, hE0.trans hE1⟩
  · cases hq : decide (S = (N : Int) - 1)
    · have Ha : Hid (autB l F = false) := Lib.hid (by rw [Ha0.out, hq]; rfl)
      have hqn : (S != (N : Int) - 1) = true := by rw [bne_iff_ne]; exact of_decide_eq_false hq
      clear Ha0 hq
      go_enter Try.func52, Try.ntmps52
      go_wp2_with fail
      rw [← Hwb.out]
      go_wp2_with (first | (go_at_call 67; refine (cSo _ hE).mono ?_; rintro e w1 ⟨rfl, hE1⟩; have hb1 := hb _ hE1; have hEx := hE1) | (go_at_call 14; refine (cO _ hEx).mono ?_; rintro e w2 ⟨rfl, hE2⟩; replace hEx := hEx.trans hE2; have hb2 := hb _ hEx))
      go_ret
      exact ⟨ret_bool Ha.out.symm, hE0.trans hEx⟩
    · have Ha : Hid (autB l F = homB l F) := Lib.hid (by rw [Ha0.out, hq]; rfl)
      have hqn : (S != (N : Int) - 1) = false := by have := of_decide_eq_true hq; rw [this]; simp
      clear Ha0 hq
      go_enter Try.func52, Try.ntmps52
      go_wp2_with fail
      rw [← Hwb.out]
      go_wp2_with (first | (go_at_call 67; refine (cSo _ hE).mono ?_; rintro e w1 ⟨rfl, hE1⟩; have hb1 := hb _ hE1; have hEx := hE1) | (go_at_call 14; refine (cO _ hEx).mono ?_; rintro e w2 ⟨rfl, hE2⟩; replace hEx := hEx.trans hE2; have hb2 := hb _ hEx))
      clear hE
      have hE := hEx
      clear hEx hb1 hb2 cSo cO hqn hne
      go_loopw [7] (fun iv wr => ∃ i : Nat, i ≤ F.length ∧ iv = .int .i64 i ∧ Ext wb wr ∧ Hid (∀ i', i' < i → ∀ j, j < F.length → hmE l F i' j = true)) (fun iv _ => F.length - (intOf iv).toNat)
      case atStart => exact ⟨0, by omega, rfl, hE, Lib.hid (by omega)⟩
      case round =>
        clear hE
        obtain ⟨i, hi, rfl, hE, H1⟩ := hrel
        by_cases hit : i < F.length
        · go_wp2_with fail
          go_loopw [8] (fun jv wq => ∃ j : Nat, j ≤ F.length ∧ jv = .int .i64 j ∧ Ext wb wq ∧ Hid (∀ j', j' < j → hmE l F i j' = true)) (fun jv _ => F.length - (intOf jv).toNat)
          case atStart => exact ⟨0, by omega, rfl, hE, Lib.hid (by omega)⟩
          case round =>
            clear hE
            obtain ⟨j, hj, rfl, hE, H2⟩ := hrel
            by_cases hjt : j < F.length
            · have hst : addF l i j < F.length := Hadd.out i j
              have cS := fun U => hcellF (addF l i j) _ hst (hE0.trans (hE.trans (lat_ext wr U)))
              have cI := fun U => hcellF i _ hit (hE0.trans (hE.trans (lat_ext wr U)))
              have cJ := fun U => hcellF j _ hjt (hE0.trans (hE.trans (lat_ext wr U)))
              have hbU := fun U => hb _ (hE.trans (lat_ext wr U))
              have tI := Hlt.out i hit
              have tJ := Hlt.out j hjt
              have a1 := fun U => l2Add_any v l i j _ (hg _ (hE.trans (lat_ext wr U))) Hgr (by omega) (by omega)
              have a2 := fun U => l2Add_any v l (nthN F i) (nthN F j) _ (hg _ (hE.trans (lat_ext wr U))) Hgr (by omega) (by omega)
              have he : (((nthN F (addF l i j) : Nat) : Int) != ((addF l (nthN F i) (nthN F j) : Nat) : Int)) = !hmE l F i j := by
                unfold hmE
                rw [Bool.eq_iff_iff, bne_iff_ne]; simp; omega
              have hEb := hE
              clear hE
              have hE := Ext.refl wr
              cases eh : hmE l F i j
              · have Hk : Hid (homB l F = false) := Lib.hid (homB_no (Hlen.out ▸ hit) (Hlen.out ▸ hjt) eh)
                rw [eh] at he
                clear eh
                go_wp2_with fail
                (refine wp_region_lat (wr) (by kernel_rfl) (by kernel_rfl) hE ?_); (repeat (go_big_quiet_step (first | (go_at_call 63; first | with_reducible exact Calls.lat (a1 _) | with_reducible exact Calls.lat (a2 _))))); (refine wpQuiet_nil ?_); (intro W hE'); (replace hE := lat_of hE'); (clear hE')
                go_wp2_with fail
                go_ret
                exact ⟨ret_bool (by rw [Ha.out, Hk.out]), hE0.trans (hEb.trans hE)⟩
              · have Hk := Lib.hid eh
                rw [eh] at he
                clear eh
                go_wp2_with fail
                (refine wp_region_lat (wr) (by kernel_rfl) (by kernel_rfl) hE ?_); (repeat (go_big_quiet_step (first | (go_at_call 63; first | with_reducible exact Calls.lat (a1 _) | with_reducible exact Calls.lat (a2 _))))); (refine wpQuiet_nil ?_); (intro W hE'); (replace hE := lat_of hE'); (clear hE')
                go_wp2_with fail
                go_roundw
                case rel => exact ⟨j + 1, by omega, by go_num, hEb.trans hE, Lib.hid fun j' h1 => by by_cases e : j' = j; (subst e; exact Hk.out); exact H2.out j' (by omega)⟩
                case measure => (simp [intOf]; omega)
            · have hjl : j = F.length := by omega
              go_wp2_with fail
              go_roundw
              case rel => exact ⟨i + 1, by omega, by go_num, hE, Lib.hid fun i' h1 j' h2 => by by_cases e : i' = i; (subst e; exact H2.out j' (by omega)); exact H1.out i' (by omega) j' h2⟩
              case measure => (simp [intOf]; omega)
        · have hil : i = F.length := by omega
          have Hk : Hid (homB l F = true) := Lib.hid (homB_iff.2 fun x y hx hy => H1.out x (by rw [hil, Hlen.out]; exact hx) y (by rw [Hlen.out]; exact hy))
          go_wp2_with fail
          go_ret
          exact ⟨ret_bool (by rw [Ha.out, Hk.out]), hE0.trans hE⟩
end Go.Zz

/- Multiples and places: the program; multiples of the reference. -/
namespace Go.Zz
open Go.RowKit Go.Proofs
set_option maxHeartbeats 400000
set_option maxRecDepth 4000

theorem times_any (v : Value) (l : List Int) (x n : Nat) (w : World) (h : Ints w v l) (Hgr : Hid (isGrp l = true)) (hx : x < 16777216) (hn : n ≤ 1000000) :
    Calls Try.prog 61 #[.agg #[v], .int .i64 x, .int .i64 n] w fun e w' => e = .returned (.int .i64 (mulF l x n : Nat)) ∧ Ext w w' := by
  obtain ⟨wb, hwb⟩ : ∃ wb, wb = w.alloc (.cells #[v] 27) := ⟨_, rfl⟩
  have hE0 := (Ext.refl w).alloc (.cells #[v] 27)
  have hb := box_cell w v 27
  rw [← hwb] at hE0 hb
  have hg : ∀ W, Ext wb W → Ints W v l := fun W hW => h.ext (hE0.trans hW)
  have hE := Ext.refl wb
  have Hsz : Hid (w.heap.size + 1 = wb.heap.size) := Lib.hid (by rw [hwb]; simp [go_sem])
  have Hwb := Lib.hid hwb
  clear hwb h
  have hn0 : ¬ ((n : Int) < 0) := by omega
  go_enter Try.func61, Try.ntmps61
  go_wp2_with fail
  rw [← Hwb.out]
  go_loopw [7, 16] (fun sv iv wr => ∃ i : Nat, i ≤ n ∧ iv = .int .i64 i ∧ sv = .int .i64 (mulF l x i : Nat) ∧ Ext wb wr) (fun _ iv _ => n - (intOf iv).toNat)
  case atStart => exact ⟨0, by omega, rfl, rfl, hE⟩
  case round =>
    clear hE
    obtain ⟨i, hi, rfl, rfl, hE⟩ := hrel
    by_cases hlt : i < n
    · have hltI : (i : Int) < (n : Int) := by omega
      have hbx := hb _ hE
      have hm := mulF_lt Hgr.out x i
      have hs : Hid (mulF l x (i + 1) = addF l (mulF l x i) x) := Lib.hid rfl
      go_wp2_with (first | (go_at_call 60; refine (add_any _ _ _ _ _ (hg _ hE) (Hgr) ((by omega)) (hx)).mono ?_; rintro e w' ⟨rfl, hE'⟩; replace hE := hE.trans hE'; clear hE'))
      go_roundw
      case rel => exact ⟨i + 1, by omega, by go_num, by rw [hs.out], hE⟩
      case measure => (simp [intOf]; omega)
    · have hin : i = n := by omega
      have hltI : ¬ (i : Int) < (n : Int) := by omega
      rw [hin] at hltI ⊢
      clear hin hi hlt
      go_wp2_with fail
      go_ret
      exact ⟨rfl, hE0.trans hE⟩
theorem places_any (v : Value) (l : List Int) (x : Nat) (w : World) (h : Ints w v l) (Hgr : Hid (isGrp l = true)) (hx : x < 16777216) :
    Calls Try.prog 59 #[.agg #[v], .int .i64 x] w fun e w' => ∃ v', e = .returned v' ∧ Own 3 w w' v' (castL (plP l x l.length)) ∧ Ext w w' := by
  have hop := h.op
  have hE0 := (Ext.refl w).alloc (.cells #[v] 27)
  have hE := Ext.refl (w.alloc (.cells #[v] 27))
  have hb := box_cell w v 27
  have hg : ∀ W, Ext (w.alloc (.cells #[v] 27)) W → Ints W v l := fun W hW => h.ext (hE0.trans hW)
  clear h
  obtain ⟨ao, c, adr, rfl, hlen, hadr, hcell⟩ := hop
  have hix := ints_index (c := c) elI szI hadr
  clear hadr
  have hl3 := isGrp_len Hgr.out
  have Hc := Lib.hid hcell
  clear hcell
  have hO := own_made (TI := 3) (n := 0) (by omega) hE0 [] rfl
  have hE1 := hE.alloc (.cells #[] 3)
  have hE2 := hE0.alloc (.cells #[] 3)
  have hb1 := hb _ hE1
  go_enter Try.func59, Try.ntmps59
  go_wp2_with fail
  go_loopw [5, 1, 12] (fun s5 s1 iv wr => ∃ k : Nat, k ≤ l.length ∧ iv = .int .i64 k ∧ s1 = .int .i64 (plR l x k : Nat) ∧ Own 3 w wr s5 (castL (plP l x k)) ∧ Ext w wr) (fun _ _ iv _ => l.length - (intOf iv).toNat)
  case atStart => exact ⟨0, by omega, rfl, rfl, by simpa [plP, castL] using hO, hE2⟩
  case round =>
    clear hO hE hE1 hE2 hb1
    obtain ⟨k, hk, rfl, rfl, hO, hE⟩ := hrel
    by_cases hlt : k < l.length
    · have hltI : (k : Int) < (l.length : Int) := by omega
      have hck := Hc.out k _ hlt hE
      have hn := isGrp_nth Hgr.out hlt
      have hr := plR_le l x k
      have HR : Hid (plR l x (k + 1) = plR l x k / (nth l k).toNat) := Lib.hid rfl
      have HP : Hid (plP l x (k + 1) = plP l x k ++ [plR l x k % (nth l k).toNat]) := Lib.hid rfl
      have hpl := plP_len l x k
      obtain ⟨o, ho⟩ : ∃ o : Nat, nth l k = (o : Int) := ⟨(nth l k).toNat, by omega⟩
      rw [ho] at hck hn
      rw [ho, Int.toNat_natCast] at HR HP
      clear ho
      obtain ⟨r, hrr⟩ : ∃ r, r = plR l x k := ⟨_, rfl⟩
      rw [← hrr] at hr HR HP ⊢
      clear hrr
      have hne2 : ((o : Int) == 0) = false := by simp; omega
      have hpos : 0 < (o : Int) := by omega
      have D := Lib.hid (Int.natCast_ediv r o)
      have Mo := Lib.hid (Int.natCast_emod r o)
      have m1 : r % o < 16777216 := by have := Nat.mod_le r o; omega
      have m2 : r / o < 16777216 := by have := Nat.div_le_self r o; omega
      have hmb : (0 : Int) ≤ (r : Int) % (o : Int) ∧ (r : Int) % (o : Int) < 16777216 := by rw [← Mo.out]; exact ⟨Int.natCast_nonneg _, Int.ofNat_lt.2 m1⟩
      have hdb : (0 : Int) ≤ (r : Int) / (o : Int) ∧ (r : Int) / (o : Int) < 16777216 := by rw [← D.out]; exact ⟨Int.natCast_nonneg _, Int.ofNat_lt.2 m2⟩
      clear m1 m2
      go_wp2_with (at_builtin; refine wp_append1 slI rfl _ _ rfl w _ _ _ _ hO hE (by rw [castL_len]; omega) rfl rfl ?_; intro v1 w1 hO1 hE1)
      go_roundw
      case rel => exact ⟨k + 1, by omega, by go_num, by rw [HR.out, D.out], by rw [HP.out, castL_snoc, Mo.out]; exact hO1, hE1⟩
      case measure => (simp [intOf]; omega)
    · have hkl : k = l.length := by omega
      subst hkl
      go_wp2_with fail
      go_ret
      exact ⟨_, rfl, hO, hE⟩
end Go.Zz

/- Multiples: the reference. -/
namespace Go.Zz
open Go.RowKit Go.Proofs
set_option maxHeartbeats 400000
set_option maxRecDepth 4000

theorem sMultipleOf_in (v : Value) (l : List Int) (x n : Nat) (w : World) (h : Ints w v l) (Hgr : Hid (isGrp l = true)) (hx : hasB l (x : Int) = true) (hx2 : x < 16777216) (hn : n ≤ 100) :
    Calls Try.prog 50 #[.agg #[v], .int .i64 x, .int .i64 n] w fun e w' => e = .returned (.int .i64 (mulF l x n : Nat)) ∧ Ext w w' := by
  obtain ⟨wb, hwb⟩ : ∃ wb, wb = w.alloc (.cells #[v] 27) := ⟨_, rfl⟩
  have hE0 := (Ext.refl w).alloc (.cells #[v] 27)
  have hb := box_cell w v 27
  rw [← hwb] at hE0 hb
  have hg : ∀ W, Ext wb W → Ints W v l := fun W hW => h.ext (hE0.trans hW)
  have hE := Ext.refl wb
  have Hsz : Hid (w.heap.size + 1 = wb.heap.size) := Lib.hid (by rw [hwb]; simp [go_sem])
  have Hwb := Lib.hid hwb
  clear hwb h
  have hn0 : ¬ ((n : Int) < 0) := by omega
  have hin : inB (n : Int) (-100) 100 = true := by unfold inB; simp; omega
  have hbx := hb _ hE
  go_enter Try.func50, Try.ntmps50
  go_wp2_with fail
  rw [← Hwb.out]
  go_wp2_with (first | (go_at_call 64; refine (l2Is_val _ _ _ _ (hg _ hE) (hx)).mono ?_; rintro e w' ⟨rfl, hE'⟩; replace hE := hE.trans hE'; clear hE') | (go_at_call 33; refine (l1In_any _ _ _ _).mono ?_; rintro e w' ⟨rfl, rfl⟩))
  go_loopw [7, 8] (fun sv iv wr => ∃ i : Nat, i ≤ n ∧ iv = .int .i64 i ∧ sv = .int .i64 (mulF l x i : Nat) ∧ Ext wb wr) (fun _ iv _ => n - (intOf iv).toNat)
  case atStart => exact ⟨0, by omega, rfl, rfl, hE⟩
  case round =>
    clear hE hbx
    obtain ⟨i, hi, rfl, rfl, hE⟩ := hrel
    by_cases hlt : i < n
    · have hltI : (i : Int) < (n : Int) := by omega
      have hbx := hb _ hE
      have hm := mulF_lt Hgr.out x i
      have hs : Hid (mulF l x (i + 1) = addF l (mulF l x i) x) := Lib.hid rfl
      go_wp2_with (first | (go_at_call 63; refine (l2Add_any _ _ _ _ _ (hg _ hE) (Hgr) ((by omega)) (hx2)).mono ?_; rintro e w' ⟨rfl, hE'⟩; replace hE := hE.trans hE'; clear hE'))
      go_roundw
      case rel => exact ⟨i + 1, by omega, by go_num, by rw [hs.out], hE⟩
      case measure => (simp [intOf]; omega)
    · have hinn : i = n := by omega
      have hltI : ¬ (i : Int) < (n : Int) := by omega
      rw [hinn] at hltI ⊢
      clear hinn hi hlt
      go_wp2_with fail
      go_ret
      exact ⟨rfl, hE0.trans hE⟩
end Go.Zz

/- Places: the reference. -/
namespace Go.Zz
open Go.RowKit Go.Proofs
set_option maxHeartbeats 400000
set_option maxRecDepth 4000

theorem sPlacesOf_grp (v : Value) (l : List Int) (x : Nat) (w : World) (h : Ints w v l) (Hgr : Hid (isGrp l = true)) (hx : x < ord l) :
    Calls Try.prog 66 #[.agg #[v], .int .i64 x] w fun e w' => ∃ v', e = .returned v' ∧ Own 3 w w' v' (castL (plP l x l.length)) ∧ Ext w w' := by
  have hop := h.op
  have hE0 := (Ext.refl w).alloc (.cells #[v] 27)
  have hE := Ext.refl (w.alloc (.cells #[v] 27))
  have hb := box_cell w v 27
  have hg : ∀ W, Ext (w.alloc (.cells #[v] 27)) W → Ints W v l := fun W hW => h.ext (hE0.trans hW)
  clear h
  obtain ⟨ao, c, adr, rfl, hlen, hadr, hcell⟩ := hop
  have hix := ints_index (c := c) elI szI hadr
  clear hadr
  have hl3 := isGrp_len Hgr.out
  have hob := ord_bd Hgr.out
  have Hhas := Lib.hid (fun y (hy : y ≤ x) => hasB_of Hgr.out (show y < ord l by omega))
  have Hc := Lib.hid hcell
  clear hcell
  have hO := own_made (TI := 3) (n := 0) (by omega) hE [] rfl
  have hE1 := hE.alloc (.cells #[] 3)
  have hE2 := hE0.alloc (.cells #[] 3)
  have hb1 := hb _ hE1
  go_enter Try.func66, Try.ntmps66
  go_wp2_with fail
  go_loopw [5, 1, 6] (fun s5 s1 iv wr => ∃ k : Nat, k ≤ l.length ∧ iv = .int .i64 k ∧ s1 = .int .i64 (plR l x k : Nat) ∧ Own 3 (w.alloc (.cells #[.slice ao l.length c] 27)) wr s5 (castL (plP l x k)) ∧ Ext (w.alloc (.cells #[.slice ao l.length c] 27)) wr) (fun _ _ iv _ => l.length - (intOf iv).toNat)
  case atStart => exact ⟨0, by omega, rfl, rfl, by simpa [plP, castL] using hO, hE1⟩
  case round =>
    clear hO hE hE1 hE2 hb1
    obtain ⟨k, hk, rfl, rfl, hO, hE⟩ := hrel
    have hbr := hb _ hE
    by_cases hlt : k < l.length
    · have hltI : (k : Int) < (l.length : Int) := by omega
      have hck := Hc.out k _ hlt (hE0.trans hE)
      have hn := isGrp_nth Hgr.out hlt
      have hr := plR_le l x k
      have cI := l2Is_val _ l (plR l x k) _ (hg _ hE) (Hhas.out _ hr)
      have HR : Hid (plR l x (k + 1) = plR l x k / (nth l k).toNat) := Lib.hid rfl
      have HP : Hid (plP l x (k + 1) = plP l x k ++ [plR l x k % (nth l k).toNat]) := Lib.hid rfl
      have hpl := plP_len l x k
      obtain ⟨o, ho⟩ : ∃ o : Nat, nth l k = (o : Int) := ⟨(nth l k).toNat, by omega⟩
      rw [ho] at hck hn
      have HcK := Lib.hid (fun W (hW : Ext w W) => (Hc.out k W hlt hW).trans (congrArg (fun z => some (Value.int .i64 z)) ho))
      rw [ho, Int.toNat_natCast] at HR HP
      clear ho
      obtain ⟨r, hrr⟩ : ∃ r, r = plR l x k := ⟨_, rfl⟩
      rw [← hrr] at hr HR HP cI ⊢
      clear hrr
      have hne2 : ((o : Int) == 0) = false := by simp; omega
      have hpos : 0 < (o : Int) := by omega
      have D := Lib.hid (Int.natCast_ediv r o)
      have Mo := Lib.hid (Int.natCast_emod r o)
      have m1 : r % o < 16777216 := by have := Nat.mod_le r o; omega
      have m2 : r / o < 16777216 := by have := Nat.div_le_self r o; omega
      have hmb : (0 : Int) ≤ (r : Int) % (o : Int) ∧ (r : Int) % (o : Int) < 16777216 := by rw [← Mo.out]; exact ⟨Int.natCast_nonneg _, Int.ofNat_lt.2 m1⟩
      have hdb : (0 : Int) ≤ (r : Int) / (o : Int) ∧ (r : Int) / (o : Int) < 16777216 := by rw [← D.out]; exact ⟨Int.natCast_nonneg _, Int.ofNat_lt.2 m2⟩
      clear m1 m2
      go_wp2_with (first | (go_at_call 64; refine cI.mono ?_; rintro e w2 ⟨rfl, hE2⟩; have hO2 := hO.ext hE2; have hEw := hE.trans hE2; have hb2 := hb _ hEw; have hb3 := hb _ (hEw.alloc (.cells #[.int .i64 ((r : Int) % (o : Int))] 3)); have hck2 := HcK.out _ (hE0.trans hEw)) | (at_builtin; refine wp_append1 slI rfl _ _ rfl (w.alloc (.cells #[.slice ao l.length c] 27)) _ _ _ _ hO2 hEw (by rw [castL_len]; omega) rfl rfl ?_; intro v1 w1 hO1 hE1; have hb4 := hb _ hE1; have hck4 := HcK.out _ (hE0.trans hE1)))
      go_roundw
      case rel => exact ⟨k + 1, by omega, by go_num, by rw [HR.out, D.out], by rw [HP.out, castL_snoc, Mo.out]; exact hO1, hE1⟩
      case measure => (simp [intOf]; omega)
    · have hkl : k = l.length := by omega
      subst hkl
      go_wp2_with fail
      go_ret
      exact ⟨_, rfl, hO.mono hE0, hE0.trans hE⟩
end Go.Zz

/- Maps that images of generators give: l27Extend of the reference. -/
namespace Go.Zz
open Go.RowKit Go.Proofs
set_option maxHeartbeats 2000000
set_option maxRecDepth 8000

theorem sExtend_grp (v : Value) (l : List Int) (vI : Value) (I : List Nat) (w : World) (h : Ints w v l) (hI : Ints w vI (castL I)) (Hgr : Hid (isGrp l = true)) (hIl : I.length = l.length) (hIo : ∀ y ∈ I, y < ord l) :
    Calls Try.prog 51 #[.agg #[v], vI] w fun e w' => ∃ v', e = .returned v' ∧ Own 3 w w' v' (castL (extF l I)) ∧ Ext w w' := by
  obtain ⟨aoI, cI, adrI, rfl, hadrI, hcellI⟩ := hI.nats
  have hixI := ints_index (c := cI) elI szI hadrI
  clear hadrI hI
  obtain ⟨wb, hwb⟩ : ∃ wb, wb = w.alloc (.cells #[v] 27) := ⟨_, rfl⟩
  have hE0 := (Ext.refl w).alloc (.cells #[v] 27)
  have hb := box_cell w v 27
  rw [← hwb] at hE0 hb
  have hg : ∀ W, Ext wb W → Ints W v l := fun W hW => h.ext (hE0.trans hW)
  have hE := Ext.refl wb
  have Hsz : Hid (w.heap.size + 1 = wb.heap.size) := Lib.hid (by rw [hwb]; simp [go_sem])
  have Hwb := Lib.hid hwb
  clear hwb h
  obtain ⟨wc, hwc⟩ : ∃ wc, wc = wb.alloc (.cells #[] 3) := ⟨_, rfl⟩
  have hO : Own 3 wb wc (.slice (some ⟨wb.heap.size, 0, none⟩) 0 0) [] := by rw [hwc]; exact own_made (by omega) hE [] rfl
  replace hE : Ext wb wc := by rw [hwc]; exact hE.alloc _
  have Hsz2 : Hid (wb.heap.size + 1 = wc.heap.size) := Lib.hid (by rw [hwc]; simp [go_sem])
  have Hwc := Lib.hid hwc
  clear hwc
  have hob := ord_bd Hgr.out
  have hl3 := isGrp_len Hgr.out
  have HI := Lib.hid (fun i (hi : i < I.length) => hIo _ (nthN_mem hi))
  have HL := Lib.hid hIl
  have Hhas := Lib.hid (fun y (hy : y < ord l) => hasB_of Hgr.out hy)
  have Hx : Hid (extF l I = (List.range (ord l)).map (exV l I)) := Lib.hid rfl
  clear hIo hIl
  go_enter Try.func51, Try.ntmps51
  go_wp2_with fail
  rw [← Hwb.out, ← Hwc.out]; rw [Hsz.out]; try rw [Hsz2.out]
  go_loopw [5, 6] (fun sv sx wr => ∃ x : Nat, x ≤ ord l ∧ sx = .int .i64 x ∧ Own 3 wb wr sv (castL ((List.range x).map (exV l I))) ∧ Ext wb wr) (fun _ sx _ => ord l - (intOf sx).toNat)
  case atStart => exact ⟨0, by omega, rfl, hO, hE⟩
  case round =>
    clear hE hO
    obtain ⟨x, hx, rfl, hO, hE⟩ := hrel
    have hbx := hb _ hE
    have hAl : (castL ((List.range x).map (exV l I))).length < 17592186044416 := by rw [castL_len, List.length_map, List.length_range]; omega
    have cO := fun W (hW : Ext wb W) => l2Order_any v l W (hg W hW) Hgr
    by_cases hlt : x < ord l
    · have hltI : (x : Int) < (ord l : Int) := by omega
      have hPl := plP_len l x l.length
      have HPx := Lib.hid (fun i (hi : i < l.length) => plP_nth_le l x hi)
      have Hv : Hid (exV l I x = lcT l I (plP l x l.length) l.length) := Lib.hid rfl
      have cP := fun W (hW : Ext wb W) => sPlacesOf_grp v l x W (hg W hW) Hgr hlt
      obtain ⟨P, hP⟩ : ∃ P, P = plP l x l.length := ⟨_, rfl⟩
      rw [← hP] at hPl Hv
      simp only [← hP] at cP HPx
      have HPl := Lib.hid hPl
      clear hP hPl
      have Hs : Hid ((List.range (x + 1)).map (exV l I) = (List.range x).map (exV l I) ++ [exV l I x]) := Lib.hid (extF_take l I)
      obtain ⟨A, hA⟩ : ∃ A, A = (List.range x).map (exV l I) := ⟨_, rfl⟩
      rw [← hA] at hO hAl Hs
      clear hA
      go_wp2_with (first | (go_at_call 14; refine (cO _ hE).mono ?_; rintro e w1 ⟨rfl, hE1⟩; have hE01 := hE.trans hE1; have hb1 := hb _ hE01) | (go_at_call 66; refine (cP _ hE01).mono ?_; rintro e w2 ⟨vp, rfl, hOp, hE2⟩; obtain ⟨aoP, cP2, adrP, rfl, hadrP, hcellP⟩ := hOp.ints.nats; have hixP := ints_index (c := cP2) elI szI hadrP; clear hadrP))
      have hE02 := hE01.trans hE2
      have hO2 := hO.ext (hE1.trans hE2)
      clear hE hE01 hO hbx hb1 hOp hE1 hE2
      have hEs := Ext.refl w2
      go_loopw [8, 9] (fun sz si wq => ∃ i : Nat, i ≤ l.length ∧ si = .int .i64 i ∧ sz = .int .i64 (lcT l I P i : Nat) ∧ Ext w2 wq) (fun _ si _ => P.length - (intOf si).toNat)
      case atStart => exact ⟨0, by omega, rfl, rfl, hEs⟩
      case round =>
        clear hEs
        obtain ⟨i, hi, rfl, rfl, hEs⟩ := hrel
        by_cases hiP : i < P.length
        · have hitI : (i : Int) < (P.length : Int) := by omega
          have hit : i < l.length := by have := HPl.out; omega
          have hiI : i < I.length := by have := HL.out; omega
          have kI := fun U => hcellI i _ hiI (hE0.trans (hE02.trans (hEs.trans (lat_ext wr U))))
          have kP := fun U => hcellP i _ hiP (hEs.trans (lat_ext wr U))
          have kb := fun U => hb _ (hE02.trans (hEs.trans (lat_ext wr U)))
          have hIi := HI.out i hiI
          have hPi := HPx.out i hit
          have hT := lcT_lt Hgr.out I P i
          have hM := mulF_lt Hgr.out (nthN I i) (nthN P i)
          have m1 := fun U => sMultipleOf_in v l (nthN I i) (nthN P i) _ (hg _ (hE02.trans (hEs.trans (lat_ext wr U)))) Hgr (Hhas.out _ hIi) (by omega) (by omega)
          have a1 := fun U => l2Add_any v l (lcT l I P i) (mulF l (nthN I i) (nthN P i)) _ (hg _ (hE02.trans (hEs.trans (lat_ext wr U)))) Hgr (by omega) (by omega)
          have Hn : Hid (lcT l I P (i + 1) = addF l (lcT l I P i) (mulF l (nthN I i) (nthN P i))) := Lib.hid rfl
          have hEb := hEs
          clear hEs
          have hE := Ext.refl wr
          go_wp2_with fail
          (refine wp_region_lat (wr) (by kernel_rfl) (by kernel_rfl) hE ?_); (repeat (go_big_quiet_step (first | (go_at_call 50; with_reducible exact Calls.lat (m1 _)) | (go_at_call 63; with_reducible exact Calls.lat (a1 _))))); (refine wpQuiet_nil ?_); (intro W hE'); (replace hE := lat_of hE'); (clear hE')
          go_wp2_with fail
          go_roundw
          case rel => exact ⟨i + 1, by omega, by go_num, by rw [Hn.out], hEb.trans hE⟩
          case measure => (simp [intOf]; omega)
        · have hil : i = l.length := by have := HPl.out; omega
          have hitI : ¬ (i : Int) < (P.length : Int) := by omega
          have hO3 := hO2.ext hEs
          have hE3 := hE02.trans hEs
          have HitI := Lib.hid hitI
          clear hitI hiP
          rw [hil, ← Hv.out]
          rw [hil] at HitI
          have hitI := HitI.out
          clear hil hi
          obtain ⟨z, hz⟩ : ∃ z, z = exV l I x := ⟨_, rfl⟩
          rw [← hz] at Hs ⊢
          clear hz
          go_wp2_with (at_builtin; refine wp_append1 slI rfl _ _ rfl wb _ _ _ _ hO3 hE3 hAl rfl rfl ?_; intro v1 w1 hO1 hE1)
          go_roundw
          case rel => exact ⟨x + 1, by omega, by go_num, by rw [Hs.out, castL_snoc]; exact hO1, hE1⟩
          case measure => (simp [intOf]; omega)
    · have hltI : ¬ (x : Int) < (ord l : Int) := by omega
      have hxl : x = ord l := by omega
      rw [hxl, ← Hx.out] at hO
      go_wp2_with (go_at_call 14; refine (cO _ hE).mono ?_; rintro e w1 ⟨rfl, hE1⟩)
      go_ret
      exact ⟨_, rfl, (hO.ext hE1).mono hE0, hE0.trans (hE.trans hE1)⟩
end Go.Zz

/- Plain facts on the search for a first largest set with a property that parts keep; cliques. No program is named here. -/
namespace Go.Zz
set_option linter.unusedVariables false

/-- the elements from fr on by which b may grow -/
def kidN (P : Nat → Bool) (N b fr : Nat) : Nat := bset ((List.range N).filter (fun x => decide (fr ≤ x) && P (b ||| 2 ^ x)))
theorem kidN_bit {P : Nat → Bool} {N b fr i : Nat} : (kidN P N b fr).testBit i = (decide (i < N) && (decide (fr ≤ i) && P (b ||| 2 ^ i))) := by
  unfold kidN; rw [testBit_bset, Bool.eq_iff_iff]; simp [List.mem_filter]
theorem kidN_lt (P : Nat → Bool) (N b fr : Nat) : kidN P N b fr < 2 ^ N := bset_lt fun _ hx => List.mem_range.1 (List.mem_filter.1 hx).1
def fsS (P : Nat → Bool) (N : Nat) : Nat → Nat → Nat → Nat
  | 0, b, _ => b
  | f + 1, b, fr => (elems (kidN P N b fr)).foldl (fun (best x : Nat) => if cnt best < cnt (fsS P N f (b ||| 2 ^ x) (x + 1)) then fsS P N f (b ||| 2 ^ x) (x + 1) else best) b
def fsSto (P : Nat → Bool) (N f b fr k : Nat) : Nat := ((elems (kidN P N b fr)).take k).foldl (fun (best x : Nat) => if cnt best < cnt (fsS P N f (b ||| 2 ^ x) (x + 1)) then fsS P N f (b ||| 2 ^ x) (x + 1) else best) b
theorem fsS_end (P : Nat → Bool) (N f b fr : Nat) : fsS P N (f + 1) b fr = fsSto P N f b fr (elems (kidN P N b fr)).length := by unfold fsSto; rw [List.take_length]; rfl
theorem fsSto_zero (P : Nat → Bool) (N f b fr : Nat) : fsSto P N f b fr 0 = b := rfl
theorem fsSto_more {P : Nat → Bool} {N f b fr k : Nat} (hk : k < (elems (kidN P N b fr)).length) (h : cnt (fsSto P N f b fr k) < cnt (fsS P N f (b ||| 2 ^ nthN (elems (kidN P N b fr)) k) (nthN (elems (kidN P N b fr)) k + 1))) :
    fsSto P N f b fr (k + 1) = fsS P N f (b ||| 2 ^ nthN (elems (kidN P N b fr)) k) (nthN (elems (kidN P N b fr)) k + 1) := by
  unfold fsSto at h ⊢; rw [take_nthN _ _ hk, List.foldl_append]; simp only [List.foldl_cons, List.foldl_nil]; rw [if_pos h]
theorem fsSto_less {P : Nat → Bool} {N f b fr k : Nat} (hk : k < (elems (kidN P N b fr)).length) (h : ¬ cnt (fsSto P N f b fr k) < cnt (fsS P N f (b ||| 2 ^ nthN (elems (kidN P N b fr)) k) (nthN (elems (kidN P N b fr)) k + 1))) :
    fsSto P N f b fr (k + 1) = fsSto P N f b fr k := by
  unfold fsSto at h ⊢; rw [take_nthN _ _ hk, List.foldl_append]; simp only [List.foldl_cons, List.foldl_nil]; rw [if_neg h]
/-- the same with the best one so far and its size -/
def fsI (P : Nat → Bool) (N : Nat) : Nat → Nat → Nat → Nat → Nat × Int → Nat × Int
  | 0, b, n, _, s => if s.2 < n then (b, n) else s
  | f + 1, b, n, fr, s => (elems (kidN P N b fr)).foldl (fun (s : Nat × Int) (x : Nat) => fsI P N f (b ||| 2 ^ x) (n + 1) (x + 1) s) (if s.2 < n then (b, n) else s)
/-- after the elements below k -/
def fsIto (P : Nat → Bool) (N f b n fr : Nat) (s : Nat × Int) (k : Nat) : Nat × Int := (elemsTo (kidN P N b fr) k).foldl (fun (s : Nat × Int) (x : Nat) => fsI P N f (b ||| 2 ^ x) (n + 1) (x + 1) s) (if s.2 < n then (b, n) else s)
theorem fsI_end {P : Nat → Bool} {N : Nat} (hN : N ≤ 24) (f b n fr : Nat) (s : Nat × Int) : fsI P N (f + 1) b n fr s = fsIto P N f b n fr s N := by
  unfold fsIto; rw [elemsTo_all hN (kidN_lt P N b fr)]; rfl
theorem elemsTo_nil0 {a k : Nat} (h : ∀ i, i < k → a.testBit i = false) : elemsTo a k = [] := by
  unfold elemsTo; rw [List.filter_eq_nil_iff]; intro i hi; rw [h i (List.mem_range.1 hi)]; simp
theorem fsIto_start {P : Nat → Bool} {N f b n fr : Nat} {s : Nat × Int} : fsIto P N f b n fr s fr = if s.2 < n then (b, (n : Int)) else s := by
  unfold fsIto; rw [elemsTo_nil0 fun i hi => by rw [kidN_bit]; simp; intro _ h; omega]; rfl
theorem fsIto_yes {P : Nat → Bool} {N f b n fr k : Nat} {s : Nat × Int} (h1 : k < N) (h2 : fr ≤ k) (h : P (b ||| 2 ^ k) = true) : fsIto P N f b n fr s (k + 1) = fsI P N f (b ||| 2 ^ k) (n + 1) (k + 1) (fsIto P N f b n fr s k) := by
  unfold fsIto; rw [elemsTo_succ, show (kidN P N b fr).testBit k = true by rw [kidN_bit, h]; simp [h1, h2], if_pos rfl, List.foldl_append]; rfl
theorem fsIto_no {P : Nat → Bool} {N f b n fr k : Nat} {s : Nat × Int} (h : P (b ||| 2 ^ k) = false) : fsIto P N f b n fr s (k + 1) = fsIto P N f b n fr s k := by
  unfold fsIto; rw [elemsTo_succ, show (kidN P N b fr).testBit k = false by rw [kidN_bit, h]; simp]; simp
theorem bit_two (x i : Nat) : (2 ^ x).testBit i = decide (x = i) := Nat.testBit_two_pow
theorem cnt_or_new {b x : Nat} (hb : b < 2 ^ 24) (hx : x < 24) (h : b.testBit x = false) : cnt (b ||| 2 ^ x) = cnt b + 1 := by
  have h1 := cnt_sub (Sub.or_left b (2 ^ x))
  have e : andN (b ||| 2 ^ x) b = 2 ^ x := Nat.eq_of_testBit_eq fun i => by
    rw [andN_bit, Nat.testBit_or, bit_two]
    by_cases hi : x = i
    · subst hi; simp [h]
    · simp [hi]
  rw [e] at h1
  have h2 : elems (2 ^ x) = (List.range 24).filter (fun i => decide (x = i)) := by unfold elems; congr 1; funext i; exact bit_two x i
  have h3 : cnt (2 ^ x) = 1 := by
    unfold cnt; rw [h2]
    have : ∀ n, x < n → ((List.range n).filter (fun i => decide (x = i))).length = 1 := by
      intro n
      induction n with
      | zero => omega
      | succ n ih =>
        intro hn
        rw [List.range_succ, List.filter_append, List.length_append]
        by_cases hxn : x = n
        · subst hxn
          have : (List.range x).filter (fun i => decide (x = i)) = [] := by rw [List.filter_eq_nil_iff]; intro i hi; have := List.mem_range.1 hi; simp; omega
          rw [this]; simp
        · rw [ih (by omega)]; simp [hxn]
    exact this 24 hx
  omega
/-- both searches find the same -/
theorem fsI_eq (P : Nat → Bool) (N : Nat) (hN : N ≤ 24) : ∀ (f b fr : Nat) (s : Nat × Int), b < 2 ^ fr → fr ≤ N → fsI P N f b (cnt b) fr s = if s.2 < cnt (fsS P N f b fr) then (fsS P N f b fr, (cnt (fsS P N f b fr) : Int)) else s := by
  intro f
  induction f with
  | zero => intro b fr s _ _; rfl
  | succ f ih =>
    intro b fr s hb hfr
    unfold fsI fsS
    have key : ∀ (L : List Nat), (∀ x ∈ L, fr ≤ x ∧ x < N) → ∀ r, (L.foldl (fun (s : Nat × Int) (x : Nat) => fsI P N f (b ||| 2 ^ x) (cnt b + 1) (x + 1) s) (if s.2 < cnt r then (r, (cnt r : Int)) else s)) =
        (if s.2 < cnt (L.foldl (fun (best x : Nat) => if cnt best < cnt (fsS P N f (b ||| 2 ^ x) (x + 1)) then fsS P N f (b ||| 2 ^ x) (x + 1) else best) r) then (L.foldl (fun (best x : Nat) => if cnt best < cnt (fsS P N f (b ||| 2 ^ x) (x + 1)) then fsS P N f (b ||| 2 ^ x) (x + 1) else best) r, (cnt (L.foldl (fun (best x : Nat) => if cnt best < cnt (fsS P N f (b ||| 2 ^ x) (x + 1)) then fsS P N f (b ||| 2 ^ x) (x + 1) else best) r) : Int)) else s) := by
      intro L
      induction L with
      | nil => intro _ r; rfl
      | cons x L ih2 =>
        intro hL r
        obtain ⟨hx1, hx2⟩ := hL x (by simp)
        have hbx : b.testBit x = false := testBit_ge hb hx1
        have hb24 : b < 2 ^ 24 := Nat.lt_of_lt_of_le hb (Nat.pow_le_pow_right (by omega) (by omega))
        have hc := cnt_or_new hb24 (show x < 24 by omega) hbx
        have hb2 : b ||| 2 ^ x < 2 ^ (x + 1) := Nat.or_lt_two_pow (Nat.lt_of_lt_of_le hb (Nat.pow_le_pow_right (by omega) (by omega))) (Nat.pow_lt_pow_right (by omega) (by omega))
        simp only [List.foldl_cons]
        have e := fun s => ih (b ||| 2 ^ x) (x + 1) s hb2 (by omega)
        rw [hc] at e
        have e2 : fsI P N f (b ||| 2 ^ x) (cnt b + 1) (x + 1) (if s.2 < cnt r then (r, (cnt r : Int)) else s) =
            (if s.2 < cnt (if cnt r < cnt (fsS P N f (b ||| 2 ^ x) (x + 1)) then fsS P N f (b ||| 2 ^ x) (x + 1) else r) then ((if cnt r < cnt (fsS P N f (b ||| 2 ^ x) (x + 1)) then fsS P N f (b ||| 2 ^ x) (x + 1) else r), (cnt (if cnt r < cnt (fsS P N f (b ||| 2 ^ x) (x + 1)) then fsS P N f (b ||| 2 ^ x) (x + 1) else r) : Int)) else s) := by
          rw [e]
          generalize fsS P N f (b ||| 2 ^ x) (x + 1) = y
          by_cases h1 : s.2 < cnt r <;> by_cases h2 : cnt r < cnt y <;> by_cases h3 : s.2 < cnt y <;> simp [h1, h2, h3] <;> omega
        rw [e2]
        exact ih2 (fun y hy => hL y (by simp [hy])) _
    refine key _ (fun x hx => ?_) b
    have := (mem_elems.1 hx).2
    rw [kidN_bit] at this
    simp at this; omega

theorem fsS_lt (P : Nat → Bool) (N : Nat) (hN : N ≤ 24) : ∀ (f b fr : Nat), b < 2 ^ 24 → fsS P N f b fr < 2 ^ 24 := by
  intro f
  induction f with
  | zero => intro b fr h; exact h
  | succ f ih =>
    intro b fr h
    unfold fsS
    have key : ∀ (L : List Nat), (∀ x ∈ L, x < 24) → ∀ r, r < 2 ^ 24 → L.foldl (fun (best x : Nat) => if cnt best < cnt (fsS P N f (b ||| 2 ^ x) (x + 1)) then fsS P N f (b ||| 2 ^ x) (x + 1) else best) r < 2 ^ 24 := by
      intro L
      induction L with
      | nil => intro _ r hr; exact hr
      | cons x L ih2 =>
        intro hL r hr
        simp only [List.foldl_cons]
        refine ih2 (fun y hy => hL y (by simp [hy])) _ ?_
        split
        · exact ih _ _ (Nat.or_lt_two_pow h (Nat.pow_lt_pow_right (by omega) (hL x (by simp))))
        · exact hr
    exact key _ (fun x hx => elems_lt hx) b h

/-! ### cliques -/
def cliP (l : List Int) (a b : Nat) : Bool := decide (andN (sumF l b (oppF l b)) (a ||| 1) = 0)
theorem cliP_iff {l : List Int} (hg : isGrp l = true) {a b : Nat} : cliP l a b = true ↔ ∀ y z, y < 24 → z < 24 → b.testBit y = true → b.testBit z = true → (a ||| 1).testBit (addF l y (negF l z)) = true := by
  unfold cliP
  rw [decide_eq_true_iff, andN_zero]
  constructor
  · intro h y z hy hz hby hbz
    exact h _ (testBit_sumF.2 ⟨y, negF l z, hy, hby, negF_bd hg z, testBit_oppF.2 ⟨z, hz, hbz, rfl⟩, rfl⟩)
  · intro h i hi
    obtain ⟨y, w, hy, hby, _, hw, rfl⟩ := testBit_sumF.1 hi
    obtain ⟨z, hz, hbz, rfl⟩ := testBit_oppF.1 hw
    exact h y z hy hz hby hbz
theorem addF_zero' {l : List Int} (h : Ords l) {x : Nat} (hx : x < ord l) : addF l x 0 = x := by rw [addF_comm]; exact addF_zero l h x hx
theorem neg_neg {l : List Int} (h : Ords l) {x : Nat} (hx : x < ord l) : negF l (negF l x) = x := by
  have h1 : addF l (negF l x) (negF l (negF l x)) = addF l (negF l x) x := by rw [addF_neg l h, addF_comm, addF_neg l h]
  exact addF_cancel h (negF_lt l h _) hx h1
/-- z = y + (z - y) -/
theorem add_sub {l : List Int} (h : Ords l) {y z : Nat} (hz : z < ord l) : addF l y (addF l z (negF l y)) = z := by
  rw [addF_comm l z, ← addF_assoc l h, addF_neg l h, addF_zero l h _ hz]
theorem neg_sub {l : List Int} (h : Ords l) {y z : Nat} (hy : y < ord l) (hz : z < ord l) : negF l (addF l y (negF l z)) = addF l z (negF l y) := by
  have e : addF l (addF l y (negF l z)) (addF l z (negF l y)) = 0 := by
    rw [addF_assoc l h, ← addF_assoc l h (negF l z), addF_comm l (negF l z) z, addF_neg l h, addF_zero l h _ (negF_lt l h _), addF_neg l h]
  exact (addF_cancel h (addF_lt l h _ _) (negF_lt l h _) (by rw [e, addF_neg l h])).symm
theorem one_bit (i : Nat) : (1 : Nat).testBit i = decide (i = 0) := by
  have := bit_two 0 i; rw [show (2:Nat) ^ 0 = 1 from rfl] at this; rw [this, Bool.eq_iff_iff]; simp; exact eq_comm
theorem conn_self (l : List Int) (h : Ords l) (a y : Nat) : (a ||| 1).testBit (addF l y (negF l y)) = true := by rw [addF_neg l h, Nat.testBit_or, one_bit]; simp
/-- joined by i - x -/
theorem conn_iff {l : List Int} (hg : isGrp l = true) {a x i : Nat} (ha : a < 2 ^ ord l) (hx : x < ord l) (hi : i < ord l) (hne : x ≠ i) : (a ||| 1).testBit (addF l i (negF l x)) = (shiftF l a x).testBit i := by
  have h := isGrp_ords hg
  have h0 : addF l i (negF l x) ≠ 0 := fun e => by
    have := add_sub h (y := x) hi
    rw [e, addF_zero' h hx] at this; exact hne this
  rw [Nat.testBit_or, one_bit, show decide (addF l i (negF l x) = 0) = false from decide_eq_false h0, Bool.or_false]
  refine bool_eq_of ⟨fun e => testBit_shiftF.2 ⟨_, addF_bd hg _ _, e, add_sub h hi⟩, fun e => ?_⟩
  obtain ⟨y, hy, hay, he⟩ := testBit_shiftF.1 e
  rw [← he, addF_comm l x y, addF_assoc l h, addF_neg l h, addF_zero' h (bit_lt ha hay)]
  exact hay
theorem conn_symm {l : List Int} (hg : isGrp l = true) {a y z : Nat} (ho : oppF l a = a) (hy : y < ord l) (hz : z < ord l) (h : (a ||| 1).testBit (addF l y (negF l z)) = true) : (a ||| 1).testBit (addF l z (negF l y)) = true := by
  have hO := isGrp_ords hg
  rw [Nat.testBit_or, one_bit] at h ⊢
  rw [Bool.or_eq_true] at h ⊢
  rcases h with h | h
  · left
    rw [← ho]
    exact testBit_oppF.2 ⟨_, addF_bd hg _ _, h, neg_sub hO hy hz⟩
  · right
    rw [decide_eq_true_iff] at h ⊢
    have h1 := add_sub hO (y := z) hy
    rw [h, addF_zero' hO hz] at h1
    rw [h1, addF_neg l hO]
/-- the candidates of the next step -/
theorem cli_next {l : List Int} (hg : isGrp l = true) {a b fr x : Nat} (ha : a < 2 ^ ord l) (ho : oppF l a = a) (hb : b < 2 ^ fr) (hx : (kidN (cliP l a) (ord l) b fr).testBit x = true) (i : Nat) :
    (kidN (cliP l a) (ord l) (b ||| 2 ^ x) (x + 1)).testBit i = (decide (x + 1 ≤ i) && ((kidN (cliP l a) (ord l) b fr).testBit i && (shiftF l a x).testBit i)) := by
  have hob := ord_bd hg
  rw [kidN_bit] at hx
  simp only [Bool.and_eq_true, decide_eq_true_eq] at hx
  obtain ⟨hx1, hx2, hx3⟩ := hx
  rw [kidN_bit, kidN_bit]
  by_cases hi : i < ord l
  rotate_left
  · simp [hi]
  by_cases hxi : x + 1 ≤ i
  rotate_left
  · simp [hxi]
  rw [← conn_iff hg ha hx1 hi (by omega)]
  simp only [hi, hxi, show fr ≤ i by omega, decide_true, Bool.true_and]
  rw [cliP_iff hg] at hx3
  refine bool_eq_of ⟨fun h => ?_, fun h => ?_⟩
  · rw [cliP_iff hg] at h
    rw [Bool.and_eq_true, cliP_iff hg]
    refine ⟨fun y z hy hz hby hbz => h y z hy hz ?_ ?_, h i x (by omega) (by omega) (by rw [Nat.testBit_or, bit_two]; simp) (by rw [Nat.testBit_or, Nat.testBit_or, bit_two]; simp)⟩
    · rw [Nat.testBit_or, Bool.or_eq_true] at hby; rw [Nat.testBit_or, Nat.testBit_or]; rcases hby with e | e <;> simp [e]
    · rw [Nat.testBit_or, Bool.or_eq_true] at hbz; rw [Nat.testBit_or, Nat.testBit_or]; rcases hbz with e | e <;> simp [e]
  · rw [Bool.and_eq_true, cliP_iff hg] at h
    obtain ⟨h1, h2⟩ := h
    rw [cliP_iff hg]
    have part : ∀ y, (b ||| 2 ^ x ||| 2 ^ i).testBit y = true → (b.testBit y = true ∨ y = x) ∨ y = i := by
      intro y hy
      rw [Nat.testBit_or, Nat.testBit_or, bit_two, bit_two] at hy
      simp only [Bool.or_eq_true, decide_eq_true_eq] at hy
      rcases hy with (e | e) | e
      · exact Or.inl (Or.inl e)
      · exact Or.inl (Or.inr e.symm)
      · exact Or.inr e.symm
    have inx : ∀ y, (b.testBit y = true ∨ y = x) → (b ||| 2 ^ x).testBit y = true := by
      rintro y (e | rfl)
      · rw [Nat.testBit_or, e]; rfl
      · rw [Nat.testBit_or, bit_two]; simp
    have ini : ∀ y, (b.testBit y = true ∨ y = i) → (b ||| 2 ^ i).testBit y = true := by
      rintro y (e | rfl)
      · rw [Nat.testBit_or, e]; rfl
      · rw [Nat.testBit_or, bit_two]; simp
    intro y z hy hz hby hbz
    rcases part y hby with hy1 | rfl
    · rcases part z hbz with hz1 | rfl
      · exact hx3 y z hy hz (inx y hy1) (inx z hz1)
      · rcases hy1 with hy1 | rfl
        · exact h1 y z hy hz (ini y (Or.inl hy1)) (ini z (Or.inr rfl))
        · exact conn_symm hg ho hi hx1 h2
    · rcases part z hbz with hz1 | rfl
      · rcases hz1 with hz1 | rfl
        · exact h1 y z hy hz (ini y (Or.inr rfl)) (ini z (Or.inl hz1))
        · exact h2
      · exact conn_self l (isGrp_ords hg) a _
theorem cli_start {l : List Int} (hg : isGrp l = true) (a : Nat) : kidN (cliP l a) (ord l) 0 0 = fullN l := by
  apply Nat.eq_of_testBit_eq
  intro i
  rw [kidN_bit, fullN_bit]
  by_cases hi : i < ord l
  · have : cliP l a (2 ^ i) = true := by
      rw [cliP_iff hg]
      intro y z _ _ hy hz
      rw [bit_two, decide_eq_true_iff] at hy hz
      subst hy; subst hz
      exact conn_self l (isGrp_ords hg) a i
    simp [hi, this]
  · simp [hi]
/-- left & s, shifted down and up again -/
theorem cut_bits (m s x i : Nat) : (shr (m &&& s) (x + 1) * 2 ^ (x + 1)).testBit i = (decide (x + 1 ≤ i) && (m.testBit i && s.testBit i)) := by
  unfold shr
  rw [← Nat.shiftLeft_eq, Nat.testBit_shiftLeft, Nat.testBit_shiftRight]
  by_cases h : x + 1 ≤ i
  · simp [h, Nat.testBit_and]
  · simp [h]
def lcF (l : List Int) (a : Int) : Bool := connB l a && decide (ord l ≤ 16)
def lcV (l : List Int) (a : Int) : Int := if lcF l a then (fsS (cliP l a.toNat) (ord l) (ord l + 1) 0 0 : Nat) else 0
end Go.Zz

/- The search for a first largest set: the program's closures. -/
namespace Go.Zz
open Go.RowKit Go.Proofs
set_option maxHeartbeats 2000000
set_option maxRecDepth 4000

/-- w' is w with new blocks, and writes to the blocks of S alone -/
structure Fw (S : Nat → Prop) (w w' : World) : Prop where
  os : w'.os = w.os
  tape : w'.tape = w.tape
  output : w'.output = w.output
  size : w.heap.size ≤ w'.heap.size
  block : ∀ k, k < w.heap.size → ¬ S k → w'.heap[k]? = w.heap[k]?
theorem Fw.refl (S : Nat → Prop) (w : World) : Fw S w w := ⟨rfl, rfl, rfl, Nat.le_refl _, fun _ _ _ => rfl⟩
theorem Fw.trans {S : Nat → Prop} {w w1 w2 : World} (h : Fw S w w1) (k : Fw S w1 w2) : Fw S w w2 :=
  ⟨k.os.trans h.os, k.tape.trans h.tape, k.output.trans h.output, Nat.le_trans h.size k.size, fun i hi hs => (k.block i (Nat.lt_of_lt_of_le hi h.size) hs).trans (h.block i hi hs)⟩
theorem Ext.fw {w w' : World} (h : Ext w w') (S : Nat → Prop) : Fw S w w' := ⟨h.os, h.tape, h.output, h.size, fun k hk _ => h.block k hk⟩
theorem fw_set {S : Nat → Prop} {b : Nat} (h : S b) (w : World) (i : Nat) (v : Value) : Fw S w (w.setCell ⟨b, i, none⟩ v) :=
  ⟨rfl, rfl, rfl, by simp, fun k _ hk => Below.heap_setCell _ _ _ _ (fun e => hk (by rw [e]; exact h))⟩
theorem Fw.ext {S : Nat → Prop} {w0 w w' : World} (h : Fw S w w') (hE : Ext w0 w) (hS : ∀ k, S k → w0.heap.size ≤ k) : Ext w0 w' := by
  have hs := hE.size
  refine ⟨h.os.trans hE.os, h.tape.trans hE.tape, h.output.trans hE.output, Nat.le_trans hs h.size, fun k hk => ?_⟩
  rw [h.block k (Nat.lt_of_lt_of_le hk hs) fun e => by have := hS k e; omega]
  exact hE.block k hk
theorem Fw.blk {S : Nat → Prop} {w w' : World} (h : Fw S w w') {c : Nat} {T : TypeId} {cs : Array Value} (hB : Blk w c T cs) (hc : ¬ S c) : Blk w' c T cs := by
  unfold Blk; rw [h.block c hB.lt hc]; exact hB
/-- three boxes of ints -/
def S3 (a b c : Nat) (k : Nat) : Prop := k = a ∨ k = b ∨ k = c

end Go.Zz
