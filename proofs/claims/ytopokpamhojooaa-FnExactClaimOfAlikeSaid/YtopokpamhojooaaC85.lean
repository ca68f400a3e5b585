/- Whether a map keeps sums: of the program and of the reference. -/
import Derived.Test.YtopokpamhojooaaC22
import Derived.Test.YtopokpamhojooaaPm
namespace Go.Zz
open Go.RowKit Go.Proofs
set_option maxHeartbeats 4000000
set_option maxRecDepth 8000

theorem keeps_any (v u : Value) (g h : List Int) (vL vM : Value) (L M : List Nat) (w : World) (hv : Ints w v g) (hu : Ints w u h) (Hg : Hid (isGrp g = true)) (Hh : Hid (isGrp h = true)) (hL : Ints w vL (castL L)) (hM : Ints w vM (castL M)) (hL24 : ∀ y ∈ L, y < 24) (hM24 : ∀ y ∈ M, y < 24) (hlm : L.length ≤ M.length) (hl : L.length ≤ 24) :
    Calls Try.prog 111 #[.agg #[v], .agg #[u], vL, vM] w fun e w' => e = .returned (.bool (kpB g h L M)) ∧ Ext w w' := by
  obtain ⟨wb, hwb⟩ : ∃ wb, wb = (w.alloc (.cells #[v] 30)).alloc (.cells #[u] 30) := ⟨_, rfl⟩
  have hE0 : Ext w wb := by rw [hwb]; exact ((Ext.refl _).alloc _).alloc _
  have B0 : Blk wb w.heap.size 30 #[v] := by rw [hwb]; exact (Blk.new _ _ _).alloc _
  have B1 : Blk wb (w.heap.size + 1) 30 #[u] := by rw [hwb]; simpa using Blk.new (w.alloc (.cells #[v] 30)) 30 #[u]
  have b0 : ∀ W, Ext wb W → W.cell? ⟨w.heap.size, 0, none⟩ = some v := fun W hW => (B0.ext hW).cell (i := 0) rfl
  have b1 : ∀ W, Ext wb W → W.cell? ⟨w.heap.size + 1, 0, none⟩ = some u := fun W hW => (B1.ext hW).cell (i := 0) rfl
  have HV := Lib.hid (fun W (hW : Ext wb W) => hv.ext (hE0.trans hW))
  have HU := Lib.hid (fun W (hW : Ext wb W) => hu.ext (hE0.trans hW))
  obtain ⟨aoL, cL, adrL, rfl, hadrL, hcellL⟩ := hL.nats
  have hixL := ints_index (c := cL) elI szI hadrL
  obtain ⟨aoM, cM, adrM, rfl, hadrM, hcellM⟩ := hM.nats
  have hixM := ints_index (c := cM) elI szI hadrM
  have hE := Ext.refl wb
  have Hwb := Lib.hid hwb
  clear hadrL hadrM hL hM hv hu hwb B0 B1
  have ob := ord_bd Hg.out
  go_enter Try.func111, Try.ntmps111
  go_wp2_with fail
  rw [← Hwb.out]
  go_loopw [15] (fun iv wr => ∃ i : Nat, i ≤ L.length ∧ iv = .int .i64 i ∧ Ext wb wr ∧ Hid (∀ i', i' < i → ∀ j p q, i' ≤ j → j < L.length → p < L.length → p ≤ q → q < L.length → kEq g h L M i' j p q = true)) (fun iv _ => L.length - (intOf iv).toNat)
  case atStart => exact ⟨0, by omega, rfl, hE, Lib.hid (by omega)⟩
  case round =>
    clear hE
    obtain ⟨i, hi, rfl, hE, H1⟩ := hrel
    by_cases hit : i < L.length
    · go_wp2_with fail
      go_loopw [10] (fun jv wq => ∃ j : Nat, i ≤ j ∧ j ≤ L.length ∧ jv = .int .i64 j ∧ Ext wb wq ∧ Hid (∀ j', i ≤ j' → j' < j → ∀ p q, p < L.length → p ≤ q → q < L.length → kEq g h L M i j' p q = true)) (fun jv _ => L.length - (intOf jv).toNat)
      case atStart => exact ⟨i, by omega, by omega, rfl, hE, Lib.hid (by omega)⟩
      case round =>
        clear hE
        obtain ⟨j, hij, hj, rfl, hE, H2⟩ := hrel
        by_cases hjt : j < L.length
        · go_wp2_with fail
          go_loopw [27] (fun pv wq => ∃ p : Nat, p ≤ L.length ∧ pv = .int .i64 p ∧ Ext wb wq ∧ Hid (∀ p', p' < p → ∀ q, p' ≤ q → q < L.length → kEq g h L M i j p' q = true)) (fun pv _ => L.length - (intOf pv).toNat)
          case atStart => exact ⟨0, by omega, rfl, hE, Lib.hid (by omega)⟩
          case round =>
            clear hE
            obtain ⟨p, hp, rfl, hE, H3⟩ := hrel
            by_cases hpt : p < L.length
            · go_wp2_with fail
              go_loopw [12] (fun qv wq => ∃ q : Nat, p ≤ q ∧ q ≤ L.length ∧ qv = .int .i64 q ∧ Ext wb wq ∧ Hid (∀ q', p ≤ q' → q' < q → kEq g h L M i j p q' = true)) (fun qv _ => L.length - (intOf qv).toNat)
              case atStart => exact ⟨p, by omega, by omega, rfl, hE, Lib.hid (by omega)⟩
              case round =>
                clear hE
                obtain ⟨q, hpq, hq, rfl, hE, H4⟩ := hrel
                by_cases hqt : q < L.length
                · have hpl : p < L.length := by omega
                  have him : i < M.length := by omega
                  have hjm : j < M.length := by omega
                  have hpm : p < M.length := by omega
                  have hqm : q < M.length := by omega
                  have cLi := fun U => hcellL i _ hit (hE0.trans (hE.trans (lat_ext wr U)))
                  have cLj := fun U => hcellL j _ hjt (hE0.trans (hE.trans (lat_ext wr U)))
                  have cLp := fun U => hcellL p _ hpl (hE0.trans (hE.trans (lat_ext wr U)))
                  have cLq := fun U => hcellL q _ hqt (hE0.trans (hE.trans (lat_ext wr U)))
                  have cMi := fun U => hcellM i _ him (hE0.trans (hE.trans (lat_ext wr U)))
                  have cMj := fun U => hcellM j _ hjm (hE0.trans (hE.trans (lat_ext wr U)))
                  have cMp := fun U => hcellM p _ hpm (hE0.trans (hE.trans (lat_ext wr U)))
                  have cMq := fun U => hcellM q _ hqm (hE0.trans (hE.trans (lat_ext wr U)))
                  have x0 := fun U => b0 _ (hE.trans (lat_ext wr U))
                  have x1 := fun U => b1 _ (hE.trans (lat_ext wr U))
                  have tLi := hL24 _ (nthN_mem hit)
                  have tLj := hL24 _ (nthN_mem hjt)
                  have tLp := hL24 _ (nthN_mem hpl)
                  have tLq := hL24 _ (nthN_mem hqt)
                  have tMi := hM24 _ (nthN_mem him)
                  have tMj := hM24 _ (nthN_mem hjm)
                  have tMp := hM24 _ (nthN_mem hpm)
                  have tMq := hM24 _ (nthN_mem hqm)
                  have a1 := fun U => add_any _ _ (nthN L i) (nthN L j) _ (HV.out _ (hE.trans (lat_ext wr U))) Hg (by omega) (by omega)
                  have a2 := fun U => add_any _ _ (nthN L p) (nthN L q) _ (HV.out _ (hE.trans (lat_ext wr U))) Hg (by omega) (by omega)
                  have a3 := fun U => add_any _ _ (nthN M i) (nthN M j) _ (HU.out _ (hE.trans (lat_ext wr U))) Hh (by omega) (by omega)
                  have a4 := fun U => add_any _ _ (nthN M p) (nthN M q) _ (HU.out _ (hE.trans (lat_ext wr U))) Hh (by omega) (by omega)
                  have hEb := hE
                  clear hE
                  have hE := Ext.refl wr
                  cases e1 : (((addF g (nthN L i) (nthN L j) : Nat) : Int) == ((addF g (nthN L p) (nthN L q) : Nat) : Int))
                  · have Hk : Hid (kEq g h L M i j p q = true) := Lib.hid (by unfold kEq; rw [e1]; rfl)
                    go_wp2_with fail
                    (refine wp_region_lat (wr) (by kernel_rfl) (by kernel_rfl) hE ?_); (repeat (go_big_quiet_step (first | (go_at_call 155; first | with_reducible exact Calls.lat (a1 _) | with_reducible exact Calls.lat (a2 _) | with_reducible exact Calls.lat (a3 _) | with_reducible exact Calls.lat (a4 _))))); (refine wpQuiet_nil ?_); (intro W hE'); (replace hE := lat_of hE'); (clear hE')
                    go_wp2_with fail
                    go_roundw
                    case rel => exact ⟨q + 1, by omega, by omega, by go_num, hEb.trans hE, Lib.hid fun q' h1 h2 => by by_cases e : q' = q; (subst e; exact Hk.out); exact H4.out q' h1 (by omega)⟩
                    case measure => (simp [intOf]; omega)
                  · cases e2 : (((addF h (nthN M i) (nthN M j) : Nat) : Int) != ((addF h (nthN M p) (nthN M q) : Nat) : Int))
                    · have Hk : Hid (kEq g h L M i j p q = true) := Lib.hid (by unfold kEq; rw [e1, e2]; rfl)
                      go_wp2_with fail
                      (refine wp_region_lat (wr) (by kernel_rfl) (by kernel_rfl) hE ?_); (repeat (go_big_quiet_step (first | (go_at_call 155; first | with_reducible exact Calls.lat (a1 _) | with_reducible exact Calls.lat (a2 _) | with_reducible exact Calls.lat (a3 _) | with_reducible exact Calls.lat (a4 _))))); (refine wpQuiet_nil ?_); (intro W hE'); (replace hE := lat_of hE'); (clear hE')
                      go_wp2_with fail
                      go_roundw
                      case rel => exact ⟨q + 1, by omega, by omega, by go_num, hEb.trans hE, Lib.hid fun q' h1 h2 => by by_cases e : q' = q; (subst e; exact Hk.out); exact H4.out q' h1 (by omega)⟩
                      case measure => (simp [intOf]; omega)
                    · have Hk : Hid (kpB g h L M = false) := Lib.hid (kpB_no hij hjt hpq hqt (by unfold kEq; rw [e1, e2]; rfl))
                      go_wp2_with fail
                      (refine wp_region_lat (wr) (by kernel_rfl) (by kernel_rfl) hE ?_); (repeat (go_big_quiet_step (first | (go_at_call 155; first | with_reducible exact Calls.lat (a1 _) | with_reducible exact Calls.lat (a2 _) | with_reducible exact Calls.lat (a3 _) | with_reducible exact Calls.lat (a4 _))))); (refine wpQuiet_nil ?_); (intro W hE'); (replace hE := lat_of hE'); (clear hE')
                      go_wp2_with fail
                      go_ret
                      exact ⟨ret_bool Hk.out.symm, hE0.trans (hEb.trans hE)⟩
                · have hql : q = L.length := by omega
                  subst hql
                  go_wp2_with fail
                  go_roundw
                  case rel => exact ⟨p + 1, by omega, by go_num, hE, Lib.hid fun p' h1 => by by_cases e : p' = p; (subst e; exact H4.out); exact H3.out p' (by omega)⟩
                  case measure => (simp [intOf]; omega)
            · have hpl : p = L.length := by omega
              go_wp2_with fail
              go_roundw
              case rel => exact ⟨j + 1, by omega, by omega, by go_num, hE, Lib.hid fun j' h1 h2 p' q' h3 => by by_cases e : j' = j; (subst e; exact H3.out p' (by omega) q'); exact H2.out j' h1 (by omega) p' q' h3⟩
              case measure => (simp [intOf]; omega)
        · have hjl : j = L.length := by omega
          go_wp2_with fail
          go_roundw
          case rel => exact ⟨i + 1, by omega, by go_num, hE, Lib.hid fun i' h1 j' p' q' h2 h3 => by by_cases e : i' = i; (subst e; exact H2.out j' h2 (by omega) p' q'); exact H1.out i' (by omega) j' p' q' h2 h3⟩
          case measure => (simp [intOf]; omega)
    · have hil : i = L.length := by omega
      have Hk : Hid (kpB g h L M = true) := Lib.hid (kpB_all fun i' h1 => H1.out i' (by omega))
      go_wp2_with fail
      go_ret
      exact ⟨ret_bool Hk.out.symm, hE0.trans hE⟩
theorem sKeeps_any (v u : Value) (g h : List Int) (vL vM : Value) (L M : List Nat) (w : World) (hv : Ints w v g) (hu : Ints w u h) (Hg : Hid (isGrp g = true)) (Hh : Hid (isGrp h = true)) (hL : Ints w vL (castL L)) (hM : Ints w vM (castL M)) (hL24 : ∀ y ∈ L, y < 24) (hM24 : ∀ y ∈ M, y < 24) (hlm : L.length ≤ M.length) (hl : L.length ≤ 24) :
    Calls Try.prog 154 #[.agg #[v], .agg #[u], vL, vM] w fun e w' => e = .returned (.bool (kpB g h L M)) ∧ Ext w w' := by
  obtain ⟨wb, hwb⟩ : ∃ wb, wb = (w.alloc (.cells #[v] 30)).alloc (.cells #[u] 30) := ⟨_, rfl⟩
  have hE0 : Ext w wb := by rw [hwb]; exact ((Ext.refl _).alloc _).alloc _
  have B0 : Blk wb w.heap.size 30 #[v] := by rw [hwb]; exact (Blk.new _ _ _).alloc _
  have B1 : Blk wb (w.heap.size + 1) 30 #[u] := by rw [hwb]; simpa using Blk.new (w.alloc (.cells #[v] 30)) 30 #[u]
  have b0 : ∀ W, Ext wb W → W.cell? ⟨w.heap.size, 0, none⟩ = some v := fun W hW => (B0.ext hW).cell (i := 0) rfl
  have b1 : ∀ W, Ext wb W → W.cell? ⟨w.heap.size + 1, 0, none⟩ = some u := fun W hW => (B1.ext hW).cell (i := 0) rfl
  have HV := Lib.hid (fun W (hW : Ext wb W) => hv.ext (hE0.trans hW))
  have HU := Lib.hid (fun W (hW : Ext wb W) => hu.ext (hE0.trans hW))
  obtain ⟨aoL, cL, adrL, rfl, hadrL, hcellL⟩ := hL.nats
  have hixL := ints_index (c := cL) elI szI hadrL
  obtain ⟨aoM, cM, adrM, rfl, hadrM, hcellM⟩ := hM.nats
  have hixM := ints_index (c := cM) elI szI hadrM
  have hE := Ext.refl wb
  have Hwb := Lib.hid hwb
  clear hadrL hadrM hL hM hv hu hwb B0 B1
  have ob := ord_bd Hg.out
  go_enter Try.func154, Try.ntmps154
  go_wp2_with fail
  rw [← Hwb.out]
  go_loopw [9] (fun iv wr => ∃ i : Nat, i ≤ L.length ∧ iv = .int .i64 i ∧ Ext wb wr ∧ Hid (∀ i', i' < i → ∀ j p q, i' ≤ j → j < L.length → p < (i' + 1) → p ≤ q → q < L.length → kEq g h L M i' j p q = true)) (fun iv _ => L.length - (intOf iv).toNat)
  case atStart => exact ⟨0, by omega, rfl, hE, Lib.hid (by omega)⟩
  case round =>
    clear hE
    obtain ⟨i, hi, rfl, hE, H1⟩ := hrel
    by_cases hit : i < L.length
    · go_wp2_with fail
      go_loopw [10] (fun jv wq => ∃ j : Nat, i ≤ j ∧ j ≤ L.length ∧ jv = .int .i64 j ∧ Ext wb wq ∧ Hid (∀ j', i ≤ j' → j' < j → ∀ p q, p < (i + 1) → p ≤ q → q < L.length → kEq g h L M i j' p q = true)) (fun jv _ => L.length - (intOf jv).toNat)
      case atStart => exact ⟨i, by omega, by omega, rfl, hE, Lib.hid (by omega)⟩
      case round =>
        clear hE
        obtain ⟨j, hij, hj, rfl, hE, H2⟩ := hrel
        by_cases hjt : j < L.length
        · go_wp2_with fail
          go_loopw [11] (fun pv wq => ∃ p : Nat, p ≤ (i + 1) ∧ pv = .int .i64 p ∧ Ext wb wq ∧ Hid (∀ p', p' < p → ∀ q, p' ≤ q → q < L.length → kEq g h L M i j p' q = true)) (fun pv _ => (i + 1) - (intOf pv).toNat)
          case atStart => exact ⟨0, by omega, rfl, hE, Lib.hid (by omega)⟩
          case round =>
            clear hE
            obtain ⟨p, hp, rfl, hE, H3⟩ := hrel
            by_cases hpt : p < (i + 1)
            · go_wp2_with fail
              go_loopw [12] (fun qv wq => ∃ q : Nat, p ≤ q ∧ q ≤ L.length ∧ qv = .int .i64 q ∧ Ext wb wq ∧ Hid (∀ q', p ≤ q' → q' < q → kEq g h L M i j p q' = true)) (fun qv _ => L.length - (intOf qv).toNat)
              case atStart => exact ⟨p, by omega, by omega, rfl, hE, Lib.hid (by omega)⟩
              case round =>
                clear hE
                obtain ⟨q, hpq, hq, rfl, hE, H4⟩ := hrel
                by_cases hqt : q < L.length
                · have hpl : p < L.length := by omega
                  have him : i < M.length := by omega
                  have hjm : j < M.length := by omega
                  have hpm : p < M.length := by omega
                  have hqm : q < M.length := by omega
                  have cLi := fun U => hcellL i _ hit (hE0.trans (hE.trans (lat_ext wr U)))
                  have cLj := fun U => hcellL j _ hjt (hE0.trans (hE.trans (lat_ext wr U)))
                  have cLp := fun U => hcellL p _ hpl (hE0.trans (hE.trans (lat_ext wr U)))
                  have cLq := fun U => hcellL q _ hqt (hE0.trans (hE.trans (lat_ext wr U)))
                  have cMi := fun U => hcellM i _ him (hE0.trans (hE.trans (lat_ext wr U)))
                  have cMj := fun U => hcellM j _ hjm (hE0.trans (hE.trans (lat_ext wr U)))
                  have cMp := fun U => hcellM p _ hpm (hE0.trans (hE.trans (lat_ext wr U)))
                  have cMq := fun U => hcellM q _ hqm (hE0.trans (hE.trans (lat_ext wr U)))
                  have x0 := fun U => b0 _ (hE.trans (lat_ext wr U))
                  have x1 := fun U => b1 _ (hE.trans (lat_ext wr U))
                  have tLi := hL24 _ (nthN_mem hit)
                  have tLj := hL24 _ (nthN_mem hjt)
                  have tLp := hL24 _ (nthN_mem hpl)
                  have tLq := hL24 _ (nthN_mem hqt)
                  have tMi := hM24 _ (nthN_mem him)
                  have tMj := hM24 _ (nthN_mem hjm)
                  have tMp := hM24 _ (nthN_mem hpm)
                  have tMq := hM24 _ (nthN_mem hqm)
                  have a1 := fun U => l2Add_any _ _ (nthN L i) (nthN L j) _ (HV.out _ (hE.trans (lat_ext wr U))) Hg (by omega) (by omega)
                  have a2 := fun U => l2Add_any _ _ (nthN L p) (nthN L q) _ (HV.out _ (hE.trans (lat_ext wr U))) Hg (by omega) (by omega)
                  have a3 := fun U => l2Add_any _ _ (nthN M i) (nthN M j) _ (HU.out _ (hE.trans (lat_ext wr U))) Hh (by omega) (by omega)
                  have a4 := fun U => l2Add_any _ _ (nthN M p) (nthN M q) _ (HU.out _ (hE.trans (lat_ext wr U))) Hh (by omega) (by omega)
                  have hEb := hE
                  clear hE
                  have hE := Ext.refl wr
                  cases e1 : (((addF g (nthN L i) (nthN L j) : Nat) : Int) == ((addF g (nthN L p) (nthN L q) : Nat) : Int))
                  · have Hk : Hid (kEq g h L M i j p q = true) := Lib.hid (by unfold kEq; rw [e1]; rfl)
                    go_wp2_with fail
                    (refine wp_region_lat (wr) (by kernel_rfl) (by kernel_rfl) hE ?_); (repeat (go_big_quiet_step (first | (go_at_call 161; first | with_reducible exact Calls.lat (a1 _) | with_reducible exact Calls.lat (a2 _) | with_reducible exact Calls.lat (a3 _) | with_reducible exact Calls.lat (a4 _))))); (refine wpQuiet_nil ?_); (intro W hE'); (replace hE := lat_of hE'); (clear hE')
                    go_wp2_with fail
                    go_roundw
                    case rel => exact ⟨q + 1, by omega, by omega, by go_num, hEb.trans hE, Lib.hid fun q' h1 h2 => by by_cases e : q' = q; (subst e; exact Hk.out); exact H4.out q' h1 (by omega)⟩
                    case measure => (simp [intOf]; omega)
                  · cases e2 : (((addF h (nthN M i) (nthN M j) : Nat) : Int) != ((addF h (nthN M p) (nthN M q) : Nat) : Int))
                    · have Hk : Hid (kEq g h L M i j p q = true) := Lib.hid (by unfold kEq; rw [e1, e2]; rfl)
                      go_wp2_with fail
                      (refine wp_region_lat (wr) (by kernel_rfl) (by kernel_rfl) hE ?_); (repeat (go_big_quiet_step (first | (go_at_call 161; first | with_reducible exact Calls.lat (a1 _) | with_reducible exact Calls.lat (a2 _) | with_reducible exact Calls.lat (a3 _) | with_reducible exact Calls.lat (a4 _))))); (refine wpQuiet_nil ?_); (intro W hE'); (replace hE := lat_of hE'); (clear hE')
                      go_wp2_with fail
                      go_roundw
                      case rel => exact ⟨q + 1, by omega, by omega, by go_num, hEb.trans hE, Lib.hid fun q' h1 h2 => by by_cases e : q' = q; (subst e; exact Hk.out); exact H4.out q' h1 (by omega)⟩
                      case measure => (simp [intOf]; omega)
                    · have Hk : Hid (kpB g h L M = false) := Lib.hid (kpB_no hij hjt hpq hqt (by unfold kEq; rw [e1, e2]; rfl))
                      go_wp2_with fail
                      (refine wp_region_lat (wr) (by kernel_rfl) (by kernel_rfl) hE ?_); (repeat (go_big_quiet_step (first | (go_at_call 161; first | with_reducible exact Calls.lat (a1 _) | with_reducible exact Calls.lat (a2 _) | with_reducible exact Calls.lat (a3 _) | with_reducible exact Calls.lat (a4 _))))); (refine wpQuiet_nil ?_); (intro W hE'); (replace hE := lat_of hE'); (clear hE')
                      go_wp2_with fail
                      go_ret
                      exact ⟨ret_bool Hk.out.symm, hE0.trans (hEb.trans hE)⟩
                · have hql : q = L.length := by omega
                  subst hql
                  go_wp2_with fail
                  go_roundw
                  case rel => exact ⟨p + 1, by omega, by go_num, hE, Lib.hid fun p' h1 => by by_cases e : p' = p; (subst e; exact H4.out); exact H3.out p' (by omega)⟩
                  case measure => (simp [intOf]; omega)
            · have hpl : p = (i + 1) := by omega
              go_wp2_with fail
              go_roundw
              case rel => exact ⟨j + 1, by omega, by omega, by go_num, hE, Lib.hid fun j' h1 h2 p' q' h3 => by by_cases e : j' = j; (subst e; exact H3.out p' (by omega) q'); exact H2.out j' h1 (by omega) p' q' h3⟩
              case measure => (simp [intOf]; omega)
        · have hjl : j = L.length := by omega
          go_wp2_with fail
          go_roundw
          case rel => exact ⟨i + 1, by omega, by go_num, hE, Lib.hid fun i' h1 j' p' q' h2 h3 => by by_cases e : i' = i; (subst e; exact H2.out j' h2 (by omega) p' q'); exact H1.out i' (by omega) j' p' q' h2 h3⟩
          case measure => (simp [intOf]; omega)
    · have hil : i = L.length := by omega
      have Hk : Hid (kpB g h L M = true) := Lib.hid (kpB_half fun i' h1 => H1.out i' (by omega))
      go_wp2_with fail
      go_ret
      exact ⟨ret_bool Hk.out.symm, hE0.trans hE⟩
end Go.Zz
