/- Sets out of lists; maps that keep sums: SetOf, l15Fine, IsFreimanMap, IsFreimanIso of the reference. -/
import Derived.Test.YtopokpamhojooaaGr8
import Derived.Test.YtopokpamhojooaaGr6
import Derived.Test.YtopokpamhojooaaGr4
import Derived.Deep.DeepCutAuto
import Derived.Deep.RegionHeld3
import Derived.WalkSpells
import Derived.Test.YtopokpamhojooaaGr2
namespace Go.Zz
open Go.RowKit Go.Proofs
set_option maxHeartbeats 1000000
set_option maxRecDepth 4000

theorem sSetOf_any (v : Value) (l : List Int) (vX : Value) (X : List Int) (w : World) (h : Ints w v l) (hX : Ints w vX X) :
    Calls Try.prog 74 #[.agg #[v], vX] w fun e w' => e = .returned (.tuple #[.int .i64 (soV l X), .bool (soB l X)]) ∧ Ext w w' := by
  obtain ⟨wb, hwb⟩ : ∃ wb, wb = w.alloc (.cells #[v] 30) := ⟨_, rfl⟩
  have hE0 := (Ext.refl w).alloc (.cells #[v] 30)
  have hb := box_cell w v 30
  rw [← hwb] at hE0 hb
  have hg : ∀ W, Ext wb W → Ints W v l := fun W hW => h.ext (hE0.trans hW)
  have hE := Ext.refl wb
  have Hsz : Hid (w.heap.size + 1 = wb.heap.size) := Lib.hid (by rw [hwb]; simp [go_sem])
  have Hwb := Lib.hid hwb
  clear hwb h
  obtain ⟨ao, c, adr, rfl, hlen, hadr, hcell⟩ := hX.op
  have hix := ints_index (c := c) elI szI hadr
  clear hadr hX
  go_enter Try.func74, Try.ntmps74
  go_wp2_with fail
  rw [← Hwb.out]
  go_loopw [6, 7] (fun av iv wr => ∃ (k a : Nat), k ≤ X.length ∧ iv = .int .i64 k ∧ av = .int .i64 a ∧ a < 2 ^ 24 ∧ Ext wb wr ∧ Hid (soG l X 0 = soG l (X.drop k) a)) (fun _ iv _ => X.length - (intOf iv).toNat)
  case atStart => exact ⟨0, 0, by omega, rfl, rfl, by decide, hE, Lib.hid rfl⟩
  case round =>
    clear hE
    obtain ⟨k, a, hk, rfl, rfl, ha, hE, H⟩ := hrel
    by_cases hlt : k < X.length
    · have hd := drop_nth X k hlt
      have hck := fun U => hcell k _ hlt (hE0.trans (hE.trans (lat_ext wr U)))
      have kb := fun U => hb _ (hE.trans (lat_ext wr U))
      have cI := fun U => l2Is_any v l (nth X k) (Lat wr U) (hg _ (hE.trans (lat_ext wr U)))
      have hEb := hE
      clear hE
      have hE := Ext.refl wr
      cases hh : hasB l (nth X k)
      · have Hn : Hid (soB l X = false ∧ soV l X = 0) := Lib.hid (soG_no (by rw [H.out, hd, soG_hno hh]))
        rw [hh] at cI
        clear hd hh
        go_wp2_with fail
        (refine wp_region_lat (wr) (by kernel_rfl) (by kernel_rfl) hE ?_); (repeat (go_big_quiet_step (first | (go_at_call 129; with_reducible exact Calls.lat (cI _))))); (refine wpQuiet_nil ?_); (intro W hE'); (replace hE := lat_of hE'); (clear hE')
        go_wp2_with fail
        exact bodyPost_ret (v := .tuple #[.int .i64 0, .bool false]) (by simp [results, Try.results74, go_sem]) rfl ⟨by rw [Hn.out.1, Hn.out.2], hE0.trans (hEb.trans hE)⟩
      · rw [hh] at cI
        obtain ⟨n, hn, hno, hgr⟩ := hasB_nat hh
        have hob := ord_bd hgr
        have hck3 : ∀ W, Ext wr W → W.cell? (adr k) = some (.int .i64 (n : Int)) := fun W hW => by rw [← hn]; exact hcell k _ hlt (hE0.trans (hEb.trans hW))
        rw [hn] at hd hh cI hck
        have hsh := ishr_nat (a := a) (n := n) (by omega)
        have hbt := bit_test' (a := a) (n := n) (by omega) (by omega)
        have hs1 := ishl_one (n := n) (by omega)
        have hpw := pw_le (n := n) (by omega)
        cases ht : a.testBit n
        · rw [ht] at hbt
          have Hn : Hid (soG l X 0 = soG l (X.drop (k + 1)) (a ||| 2 ^ n)) := Lib.hid (by rw [H.out, hd, soG_go hh ht])
          have Ha : Hid (((a : Int) + ((pw n : Nat) : Int)) = ((a ||| 2 ^ n : Nat) : Int)) := Lib.hid (by rw [← add_bit ht, pw_eq]; simp)
          have hab : a ||| 2 ^ n < 2 ^ 24 := Nat.or_lt_two_pow ha (Nat.pow_lt_pow_right (by omega) (by omega))
          clear hd hh ht hgr hn
          go_wp2_with fail
          (refine wp_region_lat (wr) (by kernel_rfl) (by kernel_rfl) hE ?_); (repeat (go_big_quiet_step (first | (go_at_call 129; with_reducible exact Calls.lat (cI _))))); (refine wpQuiet_nil ?_); (intro W hE'); (replace hE := lat_of hE'); (clear hE')
          go_wp2_with fail
          go_roundw
          case rel => exact ⟨k + 1, a ||| 2 ^ n, by omega, by go_num, by rw [Ha.out], hab, hEb.trans hE, Hn⟩
          case measure => (simp [intOf]; omega)
        · rw [ht] at hbt
          have Hn : Hid (soB l X = false ∧ soV l X = 0) := Lib.hid (soG_no (by rw [H.out, hd, soG_bno ht]))
          clear hd hh ht hgr hn
          go_wp2_with fail
          (refine wp_region_lat (wr) (by kernel_rfl) (by kernel_rfl) hE ?_); (repeat (go_big_quiet_step (first | (go_at_call 129; with_reducible exact Calls.lat (cI _))))); (refine wpQuiet_nil ?_); (intro W hE'); (replace hE := lat_of hE'); (clear hE')
          go_wp2_with fail
          exact bodyPost_ret (v := .tuple #[.int .i64 0, .bool false]) (by simp [results, Try.results74, go_sem]) rfl ⟨by rw [Hn.out.1, Hn.out.2], hE0.trans (hEb.trans hE)⟩
    · have hkl : k = X.length := by omega
      have Hn : Hid (soB l X = isGrp l ∧ soV l X = (a : Int)) := Lib.hid (soG_yes (by rw [H.out, hkl, List.drop_length]; rfl))
      clear hkl
      go_wp2_with (refine (sIsGroup_any _ _ _ (hg _ hE)).mono ?_; rintro e w' ⟨rfl, hE'⟩; replace hE := hE.trans hE')
      exact bodyPost_ret (v := .tuple #[.int .i64 a, .bool (isGrp l)]) (by simp [results, Try.results74, go_sem]) rfl ⟨by rw [Hn.out.1, Hn.out.2], hE0.trans hE⟩
theorem sFine_any (v u : Value) (g h : List Int) (vX vY : Value) (X Y : List Int) (w : World) (hv : Ints w v g) (hu : Ints w u h) (hX : Ints w vX X) (hY : Ints w vY Y) :
    Calls Try.prog 163 #[.agg #[v], .agg #[u], vX, vY] w fun e w' => e = .returned (.bool (fineF g h X Y)) ∧ Ext w w' := by
  obtain ⟨wb, hwb⟩ : ∃ wb, wb = (w.alloc (.cells #[v] 30)).alloc (.cells #[u] 30) := ⟨_, rfl⟩
  have hE0 : Ext w wb := by rw [hwb]; exact ((Ext.refl _).alloc _).alloc _
  have B0 : Blk wb w.heap.size 30 #[v] := by rw [hwb]; exact (Blk.new _ _ _).alloc _
  have B1 : Blk wb (w.heap.size + 1) 30 #[u] := by rw [hwb]; simpa using Blk.new (w.alloc (.cells #[v] 30)) 30 #[u]
  have b0 : ∀ W, Ext wb W → W.cell? ⟨w.heap.size, 0, none⟩ = some v := fun W hW => (B0.ext hW).cell (i := 0) rfl
  have b1 : ∀ W, Ext wb W → W.cell? ⟨w.heap.size + 1, 0, none⟩ = some u := fun W hW => (B1.ext hW).cell (i := 0) rfl
  have HV := Lib.hid (fun W (hW : Ext wb W) => hv.ext (hE0.trans hW))
  have HU := Lib.hid (fun W (hW : Ext wb W) => hu.ext (hE0.trans hW))
  have hE := Ext.refl wb
  have Hwb := Lib.hid hwb
  clear hv hu hwb B0 B1
  have HX := Lib.hid (fun W (hW : Ext wb W) => hX.ext (hE0.trans hW))
  obtain ⟨aoX, cX, -, rfl, hlenX, -, -⟩ := hX.op
  obtain ⟨ao, c, adr, rfl, hlen, hadr, hcell⟩ := hY.op
  have hix := ints_index (c := c) elI szI hadr
  clear hadr hX hY
  go_enter Try.func163, Try.ntmps163
  go_wp2_with fail
  rw [← Hwb.out]
  refine (sSetOf_any _ _ _ _ _ (HV.out _ hE) (HX.out _ hE)).mono ?_
  rintro e w1 ⟨rfl, hE1⟩
  replace hE := hE.trans hE1
  clear hE1
  go_wp2_with fail
  go_loopw [11] (fun iv wr => ∃ k : Nat, k ≤ Y.length ∧ iv = .int .i64 k ∧ Ext wb wr ∧ Hid (∀ j, j < k → hasB h (nth Y j) = true)) (fun iv _ => Y.length - (intOf iv).toNat)
  case atStart => exact ⟨0, by omega, rfl, hE, Lib.hid (by omega)⟩
  case round =>
    clear hE
    obtain ⟨k, hk, rfl, hE, H⟩ := hrel
    by_cases hlt : k < Y.length
    · have hck := fun U => hcell k _ hlt (hE0.trans (hE.trans (lat_ext wr U)))
      have kb := fun U => b1 _ (hE.trans (lat_ext wr U))
      have cI := fun U => l2Is_any u h (nth Y k) (Lat wr U) (HU.out _ (hE.trans (lat_ext wr U)))
      have hEb := hE
      clear hE
      have hE := Ext.refl wr
      cases hh : hasB h (nth Y k)
      · have Hn : Hid (fineF g h X Y = false) := Lib.hid (by
          unfold fineF
          have : Y.all (hasB h) = false := by
            rw [List.all_eq_false]; exact ⟨_, nth_mem hlt, by rw [hh]; simp⟩
          rw [this]; rfl)
        rw [hh] at cI
        clear hh
        go_wp2_with fail
        (refine wp_region_lat (wr) (by kernel_rfl) (by kernel_rfl) hE ?_); (repeat (go_big_quiet_step (first | (go_at_call 129; with_reducible exact Calls.lat (cI _))))); (refine wpQuiet_nil ?_); (intro W hE'); (replace hE := lat_of hE'); (clear hE')
        go_wp2_with fail
        go_ret
        exact ⟨ret_bool Hn.out.symm, hE0.trans (hEb.trans hE)⟩
      · have Hh := Lib.hid hh
        rw [hh] at cI
        clear hh
        go_wp2_with fail
        (refine wp_region_lat (wr) (by kernel_rfl) (by kernel_rfl) hE ?_); (repeat (go_big_quiet_step (first | (go_at_call 129; with_reducible exact Calls.lat (cI _))))); (refine wpQuiet_nil ?_); (intro W hE'); (replace hE := lat_of hE'); (clear hE')
        go_wp2_with fail
        go_roundw
        case rel => exact ⟨k + 1, by omega, by go_num, hEb.trans hE, Lib.hid fun j hj => by by_cases e : j = k; (subst e; exact Hh.out); exact H.out j (by omega)⟩
        case measure => (simp [intOf]; omega)
    · have Hn : Hid (fineF g h X Y = (soB g X && isGrp h && decide (X.length = Y.length) && decide (1 ≤ X.length ∧ X.length ≤ 6))) := Lib.hid (by
        unfold fineF
        have : Y.all (hasB h) = true := List.all_eq_true.2 fun x hx => by
          obtain ⟨j, hj, rfl⟩ := mem_nth hx; exact H.out j (by omega)
        rw [this]; rfl)
      have cG := fun W (hW : Ext wb W) => sIsGroup_any u h W (HU.out W hW)
      have cI := fun W => l1In_any ((X.length : Nat) : Int) 1 6 W
      have hin : inB ((X.length : Nat) : Int) 1 6 = decide (1 ≤ X.length ∧ X.length ≤ 6) := by
        rw [Bool.eq_iff_iff, inB_t, decide_eq_true_iff]; omega
      rw [hin] at cI
      have heq : (((X.length : Nat) : Int) == ((Y.length : Nat) : Int)) = decide (X.length = Y.length) := by
        rw [Bool.eq_iff_iff, beq_iff_eq, decide_eq_true_iff]; omega
      clear hin
      obtain ⟨d1, hd1⟩ : ∃ d, d = soB g X := ⟨_, rfl⟩
      obtain ⟨d2, hd2⟩ : ∃ d, d = isGrp h := ⟨_, rfl⟩
      obtain ⟨d3, hd3⟩ : ∃ d, d = decide (X.length = Y.length) := ⟨_, rfl⟩
      obtain ⟨d4, hd4⟩ : ∃ d, d = decide (1 ≤ X.length ∧ X.length ≤ 6) := ⟨_, rfl⟩
      rw [← hd1, ← hd2, ← hd3, ← hd4] at Hn
      rw [← hd1]
      rw [← hd2] at cG
      rw [← hd3] at heq
      rw [← hd4] at cI
      clear hd1 hd2 hd3 hd4
      cases d1
      · go_wp2_with fail
        go_ret
        exact ⟨ret_bool Hn.out.symm, hE0.trans hE⟩
      cases d2
      · go_wp2_with (refine (cG _ hE).mono ?_; rintro e w' ⟨rfl, hE'⟩; replace hE := hE.trans hE')
        go_ret
        exact ⟨ret_bool Hn.out.symm, hE0.trans hE⟩
      cases d3
      · go_wp2_with (refine (cG _ hE).mono ?_; rintro e w' ⟨rfl, hE'⟩; replace hE := hE.trans hE')
        go_ret
        exact ⟨ret_bool Hn.out.symm, hE0.trans hE⟩
      go_wp2_with (first | (go_at_call 50; refine (cG _ hE).mono ?_; rintro e w' ⟨rfl, hE'⟩; replace hE := hE.trans hE') | (go_at_call 96; refine (cI _).mono ?_; rintro e w' ⟨rfl, rfl⟩))
      go_ret
      exact ⟨ret_bool (by rw [Hn.out]; rfl), hE0.trans hE⟩
theorem fine_nat {g h X Y : List Int} (H : fineF g h X Y = true) : isGrp g = true ∧ isGrp h = true ∧ (∃ L M, X = castL L ∧ Y = castL M ∧ (∀ y ∈ L, y < 24) ∧ (∀ y ∈ M, y < 24)) ∧ X.length = Y.length ∧ X.length ≤ 6 := by
  unfold fineF at H
  simp only [Bool.and_eq_true, decide_eq_true_eq] at H
  obtain ⟨h1, ⟨⟨h2, h3⟩, h4⟩, -, h5⟩ := H
  unfold soB at h2
  rw [Bool.and_eq_true] at h2
  have key : ∀ (X : List Int) (a : Nat), (soG g X a).isSome = true → ∀ x ∈ X, hasB g x = true := by
    intro X
    induction X with
    | nil => intro a _ x hx; cases hx
    | cons y X ih =>
      intro a e x hx
      unfold soG at e
      split at e
      · next hc =>
        rw [Bool.and_eq_true] at hc
        rcases List.mem_cons.1 hx with rfl | hx
        · exact hc.1
        · exact ih _ e x hx
      · cases e
  have toN : ∀ (l : List Int) (X : List Int), (∀ x ∈ X, hasB l x = true) → X = castL (natL X) ∧ ∀ y ∈ natL X, y < 24 := by
    intro l X hX
    constructor
    · unfold castL natL; rw [List.map_map]
      conv => lhs; rw [← List.map_id X]
      refine List.map_congr_left fun x hx => ?_
      obtain ⟨n, rfl, -, -⟩ := hasB_nat (hX x hx); rfl
    · intro y hy
      unfold natL at hy
      obtain ⟨x, hx, rfl⟩ := List.mem_map.1 hy
      obtain ⟨n, rfl, hn, hg⟩ := hasB_nat (hX x hx)
      have := (ord_bd hg).2
      show n < 24; omega
  obtain ⟨a1, a2⟩ := toN g X (key X 0 h2.1)
  obtain ⟨b1, b2⟩ := toN h Y (List.all_eq_true.1 h1)
  exact ⟨h2.2, h3, ⟨_, _, a1, b1, a2, b2⟩, h4, h5⟩
theorem sMap_any (v u : Value) (g h : List Int) (vX vY : Value) (X Y : List Int) (w : World) (hv : Ints w v g) (hu : Ints w u h) (hX : Ints w vX X) (hY : Ints w vY Y) :
    Calls Try.prog 133 #[.agg #[v], .agg #[u], vX, vY] w fun e w' => e = .returned (.bool (fmF g h X Y)) ∧ Ext w w' := by
  obtain ⟨wb, hwb⟩ : ∃ wb, wb = (w.alloc (.cells #[v] 30)).alloc (.cells #[u] 30) := ⟨_, rfl⟩
  have hE0 : Ext w wb := by rw [hwb]; exact ((Ext.refl _).alloc _).alloc _
  have B0 : Blk wb w.heap.size 30 #[v] := by rw [hwb]; exact (Blk.new _ _ _).alloc _
  have B1 : Blk wb (w.heap.size + 1) 30 #[u] := by rw [hwb]; simpa using Blk.new (w.alloc (.cells #[v] 30)) 30 #[u]
  have b0 : ∀ W, Ext wb W → W.cell? ⟨w.heap.size, 0, none⟩ = some v := fun W hW => (B0.ext hW).cell (i := 0) rfl
  have b1 : ∀ W, Ext wb W → W.cell? ⟨w.heap.size + 1, 0, none⟩ = some u := fun W hW => (B1.ext hW).cell (i := 0) rfl
  have HV := Lib.hid (fun W (hW : Ext wb W) => hv.ext (hE0.trans hW))
  have HU := Lib.hid (fun W (hW : Ext wb W) => hu.ext (hE0.trans hW))
  have hE := Ext.refl wb
  have Hwb := Lib.hid hwb
  clear hv hu hwb B0 B1
  have HX := Lib.hid (fun W (hW : Ext wb W) => hX.ext (hE0.trans hW))
  have HY := Lib.hid (fun W (hW : Ext wb W) => hY.ext (hE0.trans hW))
  clear hX hY
  have cF := fun W (hW : Ext wb W) => sFine_any v u g h vX vY X Y W (HV.out W hW) (HU.out W hW) (HX.out W hW) (HY.out W hW)
  cases hf : fineF g h X Y
  · have Hn : Hid (fmF g h X Y = false) := Lib.hid (by unfold fmF; rw [hf]; rfl)
    rw [hf] at cF
    go_enter Try.func133, Try.ntmps133
    go_wp2_with fail
    rw [← Hwb.out]
    refine (cF _ hE).mono ?_
    rintro e w' ⟨rfl, hE'⟩
    replace hE := hE.trans hE'
    go_wp2_with fail
    go_ret
    exact ⟨ret_bool Hn.out.symm, hE0.trans hE⟩
  · have Hn : Hid (fmF g h X Y = kpB g h (natL X) (natL Y)) := Lib.hid (by unfold fmF; rw [hf]; rfl)
    rw [hf] at cF
    obtain ⟨hg, hh, ⟨L, M, rfl, rfl, hL, hM⟩, hlm, hl6⟩ := fine_nat hf
    rw [castL_len, castL_len] at hlm
    rw [castL_len] at hl6
    rw [natL_cast, natL_cast] at Hn
    have cK := fun W (hW : Ext wb W) => sKeeps_any v u g h vX vY L M W (HV.out W hW) (HU.out W hW) (Lib.hid hg) (Lib.hid hh) (HX.out W hW) (HY.out W hW) hL hM (by omega) (by omega)
    clear hf hg hh hlm hL hM
    go_enter Try.func133, Try.ntmps133
    go_wp2_with fail
    rw [← Hwb.out]
    refine (cF _ hE).mono ?_
    rintro e w' ⟨rfl, hE'⟩
    replace hE := hE.trans hE'
    go_wp2_with (refine (cK _ hE).mono ?_; rintro e w' ⟨rfl, hE'⟩; replace hE := hE.trans hE')
    go_ret
    exact ⟨ret_bool Hn.out.symm, hE0.trans hE⟩
theorem sIso_any (v u : Value) (g h : List Int) (vX vY : Value) (X Y : List Int) (w : World) (hv : Ints w v g) (hu : Ints w u h) (hX : Ints w vX X) (hY : Ints w vY Y) :
    Calls Try.prog 75 #[.agg #[v], .agg #[u], vX, vY] w fun e w' => e = .returned (.bool (isoF g h X Y)) ∧ Ext w w' := by
  obtain ⟨wb, hwb⟩ : ∃ wb, wb = (w.alloc (.cells #[v] 30)).alloc (.cells #[u] 30) := ⟨_, rfl⟩
  have hE0 : Ext w wb := by rw [hwb]; exact ((Ext.refl _).alloc _).alloc _
  have B0 : Blk wb w.heap.size 30 #[v] := by rw [hwb]; exact (Blk.new _ _ _).alloc _
  have B1 : Blk wb (w.heap.size + 1) 30 #[u] := by rw [hwb]; simpa using Blk.new (w.alloc (.cells #[v] 30)) 30 #[u]
  have b0 : ∀ W, Ext wb W → W.cell? ⟨w.heap.size, 0, none⟩ = some v := fun W hW => (B0.ext hW).cell (i := 0) rfl
  have b1 : ∀ W, Ext wb W → W.cell? ⟨w.heap.size + 1, 0, none⟩ = some u := fun W hW => (B1.ext hW).cell (i := 0) rfl
  have HV := Lib.hid (fun W (hW : Ext wb W) => hv.ext (hE0.trans hW))
  have HU := Lib.hid (fun W (hW : Ext wb W) => hu.ext (hE0.trans hW))
  have hE := Ext.refl wb
  have Hwb := Lib.hid hwb
  clear hv hu hwb B0 B1
  have HX := Lib.hid (fun W (hW : Ext wb W) => hX.ext (hE0.trans hW))
  have HY := Lib.hid (fun W (hW : Ext wb W) => hY.ext (hE0.trans hW))
  clear hX hY
  have cF := fun W (hW : Ext wb W) => sMap_any v u g h vX vY X Y W (HV.out W hW) (HU.out W hW) (HX.out W hW) (HY.out W hW)
  have cG := fun W (hW : Ext wb W) => sMap_any u v h g vY vX Y X W (HU.out W hW) (HV.out W hW) (HY.out W hW) (HX.out W hW)
  cases hf : fmF g h X Y
  · have Hn : Hid (isoF g h X Y = false) := Lib.hid (by unfold isoF; rw [hf]; rfl)
    rw [hf] at cF
    go_enter Try.func75, Try.ntmps75
    go_wp2_with fail
    rw [← Hwb.out]
    refine (cF _ hE).mono ?_
    rintro e w' ⟨rfl, hE'⟩
    replace hE := hE.trans hE'
    go_wp2_with fail
    go_ret
    exact ⟨ret_bool Hn.out.symm, hE0.trans hE⟩
  · have Hn : Hid (isoF g h X Y = fmF h g Y X) := Lib.hid (by unfold isoF; rw [hf]; rfl)
    rw [hf] at cF
    go_enter Try.func75, Try.ntmps75
    go_wp2_with fail
    rw [← Hwb.out]
    refine (cF _ hE).mono ?_
    rintro e w' ⟨rfl, hE'⟩
    replace hE := hE.trans hE'
    go_wp2_with (refine (cG _ hE).mono ?_; rintro e w' ⟨rfl, hE'⟩; replace hE := hE.trans hE')
    go_ret
    exact ⟨ret_bool Hn.out.symm, hE0.trans hE⟩
end Go.Zz

/- append(s, xs...) and append(s, y) to a slice that is empty or owned behind a world: as a run, as a step of a region that draws, with what stays. -/
namespace Go.Zz
open Go.RowKit Go.Proofs
set_option maxHeartbeats 1000000

/-- what stays behind an append: blocks of other types -/
def Oth (TI : TypeId) (w w' : World) : Prop := ∀ b T cs, T ≠ TI → Blk w b T cs → Blk w' b T cs
theorem Oth.refl (TI : TypeId) (w : World) : Oth TI w w := fun _ _ _ _ h => h
theorem Oth.trans {TI : TypeId} {a b c : World} (h : Oth TI a b) (k : Oth TI b c) : Oth TI a c := fun b T cs hT hB => k b T cs hT (h b T cs hT hB)
theorem Ext.oth {w w' : World} (h : Ext w w') (TI : TypeId) : Oth TI w w' := fun _ _ _ _ hB => hB.ext h
theorem own_not {TI T : TypeId} {w0 w : World} {v : Value} {l : List Int} (h : Own TI w0 w v l) {g : Nat} {cs : Array Value} (hB : Blk w g T cs) (hT : T ≠ TI) : v.ownBlock ≠ some g := fun e => by
  obtain ⟨h1, h2⟩ := h
  rcases h1.2 with ⟨rfl, _⟩ | ⟨g', cap, cur, rfl, _, hh, _⟩
  · cases e
  · simp [Value.ownBlock] at e
    subst e
    have hB' : w.heap[g']? = some (.cells cs T (0, 0)) := hB
    rw [hB'] at hh
    simp at hh
    exact hT hh.2
theorem oth_grown {TI : TypeId} {w0 w w' : World} {v : Value} {l : List Int} (h : Own TI w0 w v l) (hg : w.grownBy w' v.ownBlock) : Oth TI w w' := fun b T cs hT hB =>
  hB.grown hg fun k hk e => own_not h hB hT (by rw [hk, e])
theorem run_appendsE {P : Program} {T TI : TypeId} (hT : IntSl P T TI) (ty : TypeId) (wb w0 w : World) (v u : Value) (l m : List Int) (hO : OwnE TI wb w0 w v l) (hI : Ints w u m) (hE : Ext w0 w) (hn : l.length + m.length ≤ 17592186044416) :
    ∃ v' w', (Builtin.append_ #[T, T] ty #[v, u]).run P w = .ok v' w' ∧ OwnE TI wb w0 w' v' (l ++ m) ∧ Ext w0 w' ∧ Oth TI w w' := by
  obtain ⟨i, hi, hz, hs1, hby⟩ := hT.info
  obtain ⟨ao, c, rfl, hmc, hml, hc⟩ := hI
  cases ao with
  | none =>
    have hm : m = [] := by
      cases m with
      | nil => rfl
      | cons y m => obtain ⟨_, h, _⟩ := hc 0 (by simp); cases h
    subst hm
    refine ⟨v, w, ?_, by simpa using hO, hE, Oth.refl _ _⟩
    rcases hO with ⟨g, -, rfl, rfl, hB⟩ | hO
    · simp [Builtin.append_, run_underlying hT.und, sizeOf, typeInfo, hi, Builtin.lenOf, Builtin.firstCells, storeCells, Result.andThen]
    · rcases hO.1.2 with ⟨rfl, _⟩ | ⟨g, cap, cur, rfl, _, _, hnc, _⟩
      · simp [Builtin.append_, run_underlying hT.und, sizeOf, typeInfo, hi, Builtin.lenOf, Builtin.firstCells]
      · simp [Builtin.append_, run_underlying hT.und, sizeOf, typeInfo, hi, Builtin.lenOf, Builtin.firstCells, hnc, storeCells, Result.andThen]
  | some ad =>
    have hnews : ∀ j u, (m.map (Value.int .i64))[j]? = some u → w.cell? (ad.add j) = some u := by
      intro j u hu
      have hj : j < m.length := by have := (List.getElem?_eq_some_iff.1 hu).1; simpa using this
      obtain ⟨a', ha', hc'⟩ := hc j hj
      cases ha'
      rw [hc', ← hu, nth_get _ _ hj]; simp [hj]
    rcases hO with ⟨g, h0, rfl, rfl, hB⟩ | hO
    · by_cases hm : m = []
      · subst hm
        have hown : w.ownsRow wb.heap.size TI 1 (.slice (some ⟨g, 0, none⟩) 0 0) 0 [] := by
          have hB' : w.heap[g]? = some (.cells #[] TI (0, 0)) := hB
          exact ⟨by simp, Or.inr ⟨g, 0, #[], rfl, h0, hB', Nat.le_refl _, Nat.zero_le _, by simp, by simp⟩⟩
        refine ⟨_, w, ?_, Or.inl ⟨g, h0, rfl, rfl, hB⟩, hE, Oth.refl _ _⟩
        have hrun := run_append_owned_none (P := P) w wb.heap.size T ty TI i 1 hT.und hi (.slice (some ⟨g, 0, none⟩) 0 0) 0 [] hown
        rw [← hrun]; simp [Builtin.append_, run_underlying hT.und, sizeOf, typeInfo, hi, Builtin.lenOf, Builtin.firstCells, go_sem]
      · have hpos : 0 < m.length := Nat.pos_of_ne_zero (fun e => hm (List.eq_nil_of_length_eq_zero e))
        obtain ⟨v', w', hrun, r1, r2⟩ := run_append_arg_grows (P := P) (w := w) T ty TI i (.int .i64 0) 1 8 hT.und hi hz hs1 hby rfl (by omega) ⟨g, 0, none⟩ 0 0 [] (by simp) (by simp) ad m.length c (m.map (Value.int .i64)) (by simp) hnews (by omega) (by unfold maxLen; omega) (by omega)
        have hO' : Own TI w w' v' m := ⟨by simpa using r1, hml⟩
        have hE2 : Ext w w' := (Ext.refl w).grown r2 (by simp)
        exact ⟨v', w', hrun, Or.inr (by simpa using hO'.mono hE), hE.trans hE2, hE2.oth TI⟩
    · obtain ⟨v', w', hrun, r1, r2, -⟩ := run_append_own (P := P) w w0.heap.size T ty TI i (.int .i64 0) 1 8 hT.und hi hz hs1 hby rfl (by omega) v l.length _ hO.1 ad m.length c (m.map (Value.int .i64)) (by simp) hnews (ints_oneCell _ _) (by unfold maxLen; omega) (by omega) hE.size
      exact ⟨v', w', hrun, Or.inr ⟨by simpa using r1, by simp; omega⟩, hE.grown r2 fun k hk => (hO.blk k hk).1, oth_grown hO r2⟩
/-- as a step of a region that draws its order -/
theorem step_appendsE {P : Program} {ops : Array Oper} {o : Oper} {a : Act} {w : World} {K : Act → World → Prop} {Q : Exit → Act → World → Prop} {E : Prop} {T TI : TypeId} (hT : IntSl P T TI)
    (hg : o.guard = none) (s x : Operand) (hop : o.op = Op.call { callee := Callee.builtin Builtin.append, args := #[s, x], argTypes := #[T, T] })
    (wb w0 : World) (v u : Value) (l m : List Int) (hO : OwnE TI wb w0 w v l) (hI : Ints w u m) (hE : Ext w0 w) (hn : l.length + m.length ≤ 17592186044416) (hs : a.eval s = v) (hx : a.eval x = u)
    (hK : ∀ v' w', OwnE TI wb w0 w' v' (l ++ m) → Ext w0 w' → Oth TI w w' → K (a.put o.dst v') w') :
    if Region.wanted o (yielded ops a.tmps) = true then Oper.wp P o a w K Q else E := by
  have hw : Region.wanted o (yielded ops a.tmps) = true := by simp [Region.wanted, hg]
  rw [if_pos hw]
  obtain ⟨v', w', hrun, h1, h2, h3⟩ := run_appendsE hT o.type wb w0 w v u l m hO hI hE hn
  unfold Oper.wp
  simp [execOp, hop, resolve, invoke, builtin, hs, hx, hrun, Result.andThen]
  exact hK v' w' h1 h2 h3
section
variable {P : Program} {ops : Array Oper} {rest : List Oper} {o : Oper} {a : Act} {Q : Exit → Act → World → Prop} {T TI : TypeId}
theorem wp_appendsE (hT : IntSl P T TI) (hg : o.guard = none) (s x : Operand) (hop : o.op = Op.call { callee := Callee.builtin Builtin.append, args := #[s, x], argTypes := #[T, T] })
    (wb w0 w : World) (v u : Value) (l m : List Int) (hO : OwnE TI wb w0 w v l) (hI : Ints w u m) (hE : Ext w0 w) (hn : l.length + m.length ≤ 17592186044416) (hs : a.eval s = v) (hx : a.eval x = u)
    (hK : ∀ v' w', OwnE TI wb w0 w' v' (l ++ m) → Ext w0 w' → Oth TI w w' → wpList P ops Q rest (a.put o.dst v') w') :
    wpList P ops Q (o :: rest) a w := by
  obtain ⟨v', w', hrun, h1, h2, h3⟩ := run_appendsE hT o.type wb w0 w v u l m hO hI hE hn
  refine wpList_plain hg fun K hK' => ?_
  unfold Oper.wp
  simp [execOp, hop, resolve, invoke, builtin, hs, hx, hrun, Result.andThen]
  exact hK' _ _ (hK v' w' h1 h2 h3)
theorem ints_one (W : World) (y : Int) (TI : TypeId) : Ints (W.alloc (.cells #[.int .i64 y] TI)) (.slice (some ⟨W.heap.size, 0, none⟩) 1 1) [y] := by
  refine ⟨_, 1, rfl, Nat.le_refl _, by simp, fun i hi => ⟨_, rfl, ?_⟩⟩
  match i, hi with
  | 0, _ => simp [go_sem, nth, Addr.add]
/-- append(s, y), with what stays -/
theorem wp_append1K (hT : IntSl P T TI) (hg : o.guard = none) (s x : Operand) (hop : o.op = Op.call { callee := Callee.builtin Builtin.append, args := #[s, x], argTypes := #[T, T] })
    (wb w0 W : World) (v : Value) (l : List Int) (y : Int) (hO : OwnE TI wb w0 W v l) (hE : Ext w0 W) (hn : l.length < 17592186044416) (hs : a.eval s = v) (hx : a.eval x = .slice (some ⟨W.heap.size, 0, none⟩) 1 1)
    (hK : ∀ v' w', OwnE TI wb w0 w' v' (l ++ [y]) → Ext w0 w' → Oth TI W w' → wpList P ops Q rest (a.put o.dst v') w') :
    wpList P ops Q (o :: rest) a (W.alloc (.cells #[.int .i64 y] TI)) :=
  wp_appendsE hT hg s x hop wb w0 _ v _ l [y] (hO.ext ((Ext.refl W).alloc _)) (ints_one W y TI) (hE.alloc _) (by simp; omega) hs hx fun v' w' h1 h2 h3 =>
    hK v' w' h1 h2 ((((Ext.refl W).alloc _).oth TI).trans h3)
end
end Go.Zz

/- Steps of regions that draw their order: a struct variable is made, a struct is stored into it. -/
namespace Go.Zz
open Go.RowKit Go.Proofs
set_option maxHeartbeats 2000000
set_option maxRecDepth 20000

/-- append([]int{}, xs...) as a step of a region that draws its order; where its block lies -/
theorem step_copy2 {P : Program} {ops : Array Oper} {o : Oper} {a : Act} {w : World} {K : Act → World → Prop} {Q : Exit → Act → World → Prop} {E : Prop} {T TI : TypeId} (hT : IntSl P T TI)
    (hg : o.guard = none) (s x : Operand) (hop : o.op = Op.call { callee := Callee.builtin Builtin.append, args := #[s, x], argTypes := #[T, T] })
    (g : Nat) (u : Value) (m : List Int) (hs : a.eval s = .slice (some ⟨g, 0, none⟩) 0 0) (hx : a.eval x = u) (hB : Blk w g TI #[]) (hI : Ints w u m) (w0 : World) (h0 : w0.heap.size ≤ g) (hE : Ext w0 w)
    (hK : ∀ ao c w', Own TI w0 w' (.slice ao m.length c) m → (∀ k, (Value.slice ao m.length c).ownBlock = some k → k = g ∨ w.heap.size ≤ k) → Ext w w' → K (a.put o.dst (.slice ao m.length c)) w') :
    if Region.wanted o (yielded ops a.tmps) = true then Oper.wp P o a w K Q else E := by
  have hw : Region.wanted o (yielded ops a.tmps) = true := by simp [Region.wanted, hg]
  rw [if_pos hw]
  obtain ⟨i, hi, hz, hs1, hby⟩ := hT.info
  have hown : w.ownsRow w0.heap.size TI 1 (.slice (some ⟨g, 0, none⟩) 0 0) 0 [] := by
    have hB' : w.heap[g]? = some (.cells #[] TI (0, 0)) := hB
    exact ⟨by simp, Or.inr ⟨g, 0, #[], rfl, h0, hB', Nat.le_refl _, Nat.zero_le _, by simp, by simp⟩⟩
  obtain ⟨ao, c, rfl, hmc, hml, hc⟩ := hI
  have key : m = [] → Oper.wp P o a w K Q := by
    intro hm
    subst hm
    have hrun2 : (Builtin.append_ #[T, T] o.type #[.slice (some ⟨g, 0, none⟩) 0 0, .slice ao 0 c]).run P w = .ok (.slice (some ⟨g, 0, none⟩) 0 0) w := by
      have hrun := run_append_owned_none (P := P) w w0.heap.size T o.type TI i 1 hT.und hi (.slice (some ⟨g, 0, none⟩) 0 0) 0 [] hown
      rw [← hrun]; cases ao <;> simp [Builtin.append_, run_underlying hT.und, sizeOf, typeInfo, hi, Builtin.lenOf, Builtin.firstCells, go_sem]
    unfold Oper.wp
    simp [execOp, hop, resolve, invoke, builtin, hs, hx, hrun2, Result.andThen]
    exact hK (some ⟨g, 0, none⟩) 0 _ ⟨by simpa using hown, by simp⟩ (fun k hk => by simp [Value.ownBlock] at hk; exact Or.inl hk.symm) (Ext.refl w)
  by_cases hm : m = []
  · exact key hm
  · have hpos : 0 < m.length := Nat.pos_of_ne_zero (fun e => hm (List.eq_nil_of_length_eq_zero e))
    cases ao with
    | none => obtain ⟨_, h, _⟩ := hc 0 hpos; cases h
    | some ad =>
      obtain ⟨v', w', hrun, r1, r2⟩ := run_append_arg_grows (P := P) (w := w) T o.type TI i (.int .i64 0) 1 8 hT.und hi hz hs1 hby rfl (by omega) ⟨g, 0, none⟩ 0 0 [] (by simp) (by simp) ad m.length c (m.map (Value.int .i64)) (by simp) (by
        intro j u hu
        have hj : j < m.length := by have := (List.getElem?_eq_some_iff.1 hu).1; simpa using this
        obtain ⟨a', ha', hc'⟩ := hc j hj
        cases ha'
        rw [hc', ← hu, nth_get _ _ hj]; simp [hj]) (by omega) (by unfold maxLen; omega) (by omega)
      unfold Oper.wp
      simp [execOp, hop, resolve, invoke, builtin, hs, hx, hrun, Result.andThen]
      have hO' : Own TI w w' v' m := ⟨by simpa using r1, hml⟩
      obtain ⟨ao', c', rfl, -⟩ := hO'.shape
      exact hK ao' c' w' (hO'.mono hE) (fun k hk => Or.inr (hO'.blk k hk).1) ((Ext.refl w).grown r2 (by simp))
theorem step_build {ops : Array Oper} {o : Oper} {a : Act} {w : World} {K : Act → World → Prop} {Q : Exit → Act → World → Prop} {E : Prop} (hg : o.guard = none) (hop : o.op = Op.buildSlice 22 0 #[])
    (hK : ∀ g w', Blk w' g 3 #[] → w.heap.size ≤ g → Ext w w' → K (a.put o.dst (.slice (some ⟨g, 0, none⟩) 0 0)) w') :
    if Region.wanted o (yielded ops a.tmps) = true then Oper.wp Try.prog o a w K Q else E := by
  have hw : Region.wanted o (yielded ops a.tmps) = true := by simp [Region.wanted, hg]
  rw [if_pos hw]
  have := hK w.heap.size (w.alloc (.cells #[] 3)) (Blk.new _ _ _) (Nat.le_refl _) ((Ext.refl w).alloc _)
  unfold Oper.wp
  simp [execOp, hop, Result.andThen, go_sem]
  exact this
theorem grown_setCell (w : World) (a : Addr) (u : Value) : w.grownBy (w.setCell a u) (some a.block) :=
  ⟨rfl, rfl, rfl, by simp, fun k _ hk => Below.heap_setCell _ _ _ _ (fun e => hk (by rw [e]))⟩
theorem Own.setCell_ne {TI : TypeId} {w0 w : World} {v : Value} {l : List Int} (h : Own TI w0 w v l) {p : Addr} (hp : v.ownBlock ≠ some p.block) (u : Value) : Own TI w0 (w.setCell p u) v l :=
  h.kept (grown_setCell w p u) (Or.inr hp)
theorem Own.ne_of {TI : TypeId} {w0 w : World} {v : Value} {l : List Int} (h : Own TI w0 w v l) {b : Nat} (hb : b < w0.heap.size ∨ w.heap.size ≤ b) : v.ownBlock ≠ some b := fun e => by
  have := h.blk b e; omega
/-- a row of another type lies in another block -/
theorem Own.ne_blk {TI T : TypeId} {w0 w : World} {v : Value} {l : List Int} (h : Own TI w0 w v l) {g : Nat} {cs : Array Value} (hB : Blk w g T cs) (hT : T ≠ TI) : v.ownBlock ≠ some g := fun e => by
  obtain ⟨h1, h2⟩ := h
  rcases h1.2 with ⟨rfl, _⟩ | ⟨g', cap, cur, rfl, _, hh, _⟩
  · cases e
  · simp [Value.ownBlock] at e
    subst e
    have hB' : w.heap[g']? = some (.cells cs T (0, 0)) := hB
    rw [hB'] at hh
    simp at hh
    exact hT hh.2
end Go.Zz

/- The search for an isomorphism: the reference. -/
namespace Go.Zz
open Go.RowKit Go.Proofs
set_option maxHeartbeats 2000000
set_option maxRecDepth 8000

theorem step_build1 {ops : Array Oper} {o : Oper} {a : Act} {w : World} {K : Act → World → Prop} {Q : Exit → Act → World → Prop} {E : Prop} (hg : o.guard = none) (x : Operand) (y : Int) (hop : o.op = Op.buildSlice 22 1 #[(0, x)]) (hx : a.eval x = .int .i64 y)
    (hK : ∀ g w', Blk w' g 3 #[.int .i64 y] → w.heap.size ≤ g → Ext w w' → K (a.put o.dst (.slice (some ⟨g, 0, none⟩) 1 1)) w') :
    if Region.wanted o (yielded ops a.tmps) = true then Oper.wp Try.prog o a w K Q else E := by
  have hw : Region.wanted o (yielded ops a.tmps) = true := by simp [Region.wanted, hg]
  rw [if_pos hw]
  have := hK w.heap.size (w.alloc (.cells #[.int .i64 y] 3)) (Blk.new _ _ _) (Nat.le_refl _) ((Ext.refl w).alloc _)
  unfold Oper.wp
  simp [execOp, hop, hx]
  simp [Result.andThen, go_sem]
  exact this
theorem Ints.take {w : World} {ao : Option Addr} {n c : Nat} {l : List Int} (h : Ints w (.slice ao n c) l) {k : Nat} (hk : k ≤ l.length) : Ints w (.slice ao k c) (l.take k) := by
  obtain ⟨ao', c', hv, h1, h2, h3⟩ := h
  simp only [Value.slice.injEq] at hv
  obtain ⟨rfl, rfl, rfl⟩ := hv
  have hl : (l.take k).length = k := by rw [List.length_take]; omega
  refine ⟨ao, c, by rw [hl], by rw [hl]; omega, by rw [hl]; omega, fun i hi => ?_⟩
  rw [hl] at hi
  obtain ⟨a, ha, hc⟩ := h3 i (by omega)
  refine ⟨a, ha, ?_⟩
  rw [hc]; simp [nth, List.getD, hi]
theorem castL_take (L : List Nat) (n : Nat) : castL (L.take n) = (castL L).take n := by simp [castL]
theorem Blk.ints1 {w : World} {g : Nat} {T : TypeId} {y : Int} (h : Blk w g T #[.int .i64 y]) : Ints w (.slice (some ⟨g, 0, none⟩) 1 1) [y] := by
  refine ⟨_, 1, rfl, Nat.le_refl _, by simp, fun i hi => ⟨_, rfl, ?_⟩⟩
  match i, hi with
  | 0, _ => exact h.cell (i := 0) rfl
theorem Ints.cap {w : World} {ao : Option Addr} {n c : Nat} {l : List Int} (h : Ints w (.slice ao n c) l) : n ≤ c := by
  obtain ⟨ao', c', hv, h1, _⟩ := h
  simp only [Value.slice.injEq] at hv
  obtain ⟨rfl, rfl, rfl⟩ := hv
  exact h1
/-- l[:k] -/
theorem run_cut {P : Program} {t : TypeId} (ht : P.underlying t = some (.slice (P.elem t))) (hs : ∀ w, (sizeOf (P.elem t)).run P w = .ok 1 w) (ao : Option Addr) (n c : Nat) (k : Int) (k0 : 0 ≤ k) (hk : k ≤ c) (W : World) :
    (Instr.slice t (.slice ao n c) none (some (.int .i64 k)) none).run P W = .ok (.slice ao k.toNat c) W := by
  rw [run_slice_h (ht := ht) (h0 := k0) (h2 := hk), hs]
  simp [Result.andThen, sliced]
  cases ao <;> simp [Addr.add]
theorem run_cutAt {P : Program} {t : TypeId} (ht : P.underlying t = some (.slice (P.elem t))) (hs : ∀ w, (sizeOf (P.elem t)).run P w = .ok 1 w) (ao : Option Addr) (n c : Nat) (k : Int) (k0 : 0 ≤ k) (hk : k ≤ c) (W : World) :
    (Instr.sliceAt t (.slice ao n c) none (some (.int .i64 k)) none).run P W = .ok (.slice ao k.toNat c) W := by
  rw [run_sliceAt_slice (h := ht), run_cut ht hs ao n c k k0 hk]
/-- the list with one number more, in memory of the call's own -/
def NxP (w0 : World) (M : List Nat) (Y : Nat) (s : Value) (wx : World) : Prop :=
  ∃ ao c, s = .slice ao (M.length + 1) c ∧ Own 3 w0 wx (.slice ao (M.length + 1) c) (castL (M ++ [Y])) ∧ Ext w0 wx
theorem NxP.of {w0 : World} {M : List Nat} {Y : Nat} {s : Value} {wx : World} (h : OwnE 3 w0 w0 wx s (castL M ++ [(Y : Int)])) (hE : Ext w0 wx) : NxP w0 M Y s wx := by
  have h2 := h.own (Ext.refl w0)
  rw [show castL M ++ [(Y : Int)] = castL (M ++ [Y]) by simp [castL]] at h2
  obtain ⟨ao, c, rfl, -⟩ := h2.shape
  rw [castL_len] at h2 ⊢
  rw [show (M ++ [Y]).length = M.length + 1 by simp] at h2 ⊢
  exact ⟨ao, c, rfl, h2, hE⟩
theorem sFind_any (v u : Value) (g h : List Int) (L : List Nat) (vL : Value) (b : Nat) (Hg : Hid (isGrp g = true)) (Hh : Hid (isGrp h = true)) (hLn : L.Nodup) (hLo : ∀ y ∈ L, y < ord g) (hl1 : 1 ≤ L.length) (hl5 : L.length ≤ 5) (hb2 : b < 2 ^ ord h) :
    ∀ (f : Nat) (M : List Nat) (vM : Value) (W0 w : World), Ints w v g → Ints w u h → Ints w vL (castL L) → Own 3 W0 w vM (castL M) → Ext W0 w → M.Nodup → (∀ y ∈ M, y < ord h) → M.length ≤ L.length → L.length < M.length + f →
    Calls Try.prog 108 #[.agg #[v], .agg #[u], vL, vM, .int .i64 b] w fun e w' => ∃ v' Z, e = .returned (.tuple #[v', .bool (fiS g h L (elems b) f M).isSome]) ∧ Own 3 W0 w' v' (castL Z) ∧ (∀ N, fiS g h L (elems b) f M = some N → Z = N) ∧ (M.length < L.length → fiS g h L (elems b) f M = none → Z = []) ∧ Ext w w' := by
  intro f
  induction f with
  | zero => intro M vM W0 w _ _ _ _ _ _ _ h1 h2; omega
  | succ f ih =>
  intro M vM W0 w hv hu hL hM hEW hMn hMo hml hfu
  obtain ⟨wb, hwb⟩ : ∃ wb, wb = (w.alloc (.cells #[v] 30)).alloc (.cells #[u] 30) := ⟨_, rfl⟩
  have hE0 : Ext w wb := by rw [hwb]; exact ((Ext.refl _).alloc _).alloc _
  have B0 : Blk wb w.heap.size 30 #[v] := by rw [hwb]; exact (Blk.new _ _ _).alloc _
  have B1 : Blk wb (w.heap.size + 1) 30 #[u] := by rw [hwb]; simpa using Blk.new (w.alloc (.cells #[v] 30)) 30 #[u]
  have b0 : ∀ W, Ext wb W → W.cell? ⟨w.heap.size, 0, none⟩ = some v := fun W hW => (B0.ext hW).cell (i := 0) rfl
  have b1 : ∀ W, Ext wb W → W.cell? ⟨w.heap.size + 1, 0, none⟩ = some u := fun W hW => (B1.ext hW).cell (i := 0) rfl
  have HV := Lib.hid (fun W (hW : Ext wb W) => hv.ext (hE0.trans hW))
  have HU := Lib.hid (fun W (hW : Ext wb W) => hu.ext (hE0.trans hW))
  have hE := Ext.refl wb
  have Hwb := Lib.hid hwb
  clear hv hu hwb B0 B1
  have HL := Lib.hid (fun W (hW : Ext wb W) => hL.ext (hE0.trans hW))
  have HM := Lib.hid (fun W (hW : Ext wb W) => hM.ext (hE0.trans hW))
  have hE0W := hEW.trans hE0
  have hoh := ord_bd Hh.out
  have hog := ord_bd Hg.out
  have hb24 : b < 2 ^ 24 := Nat.lt_of_lt_of_le hb2 (pow_ord Hh.out)
  obtain ⟨aoM, cM, rfl, -⟩ := hM.shape
  obtain ⟨aoL, cL, -, rfl, -, -, -⟩ := hL.op
  rw [castL_len L] at ih
  have Hih := Lib.hid ih
  clear ih hL hM
  rw [castL_len, castL_len]
  rw [castL_len] at HL HM
  by_cases hfull : M.length = L.length
  · have hq : (((M.length : Nat) : Int) == ((L.length : Nat) : Int)) = true := by rw [hfull]; simp
    have hK : isoF g h (castL L) (castL M) = isoK g h L M := iso_list Hg.out Hh.out hLn hMn hLo hMo hfull.symm hl1 (by omega)
    have HK : Hid (fiS g h L (elems b) (f + 1) M = if isoK g h L M then some M else none) := Lib.hid (by unfold fiS; rw [if_pos hfull])
    have cI := fun W (hW : Ext wb W) => sIso_any v u g h _ _ (castL L) (castL M) W (HV.out W hW) (HU.out W hW) (HL.out W hW) (HM.out W hW).ints
    rw [hK] at cI
    have hlt : ¬ M.length < L.length := by omega
    have Hlt := Lib.hid hlt
    clear hK hlt hfull
    cases hk : isoK g h L M
    all_goals
      rw [hk] at cI HK
      clear hk
      go_enter Try.func108, Try.ntmps108
      go_wp2_with fail
      rw [← Hwb.out]
      refine (cI _ hE).mono ?_
      rintro e w1 ⟨rfl, hE1⟩
      go_wp2_with fail
      rw [HK.out]
    · exact bodyPost_ret (v := .tuple #[.slice aoM M.length cM, .bool false]) (by simp [results, Try.results108, go_sem]) rfl ⟨_, M, rfl, (HM.out _ hE1), fun N e => by simp at e, fun e => absurd e Hlt.out, hE0.trans hE1⟩
    · exact bodyPost_ret (v := .tuple #[.slice aoM M.length cM, .bool true]) (by simp [results, Try.results108, go_sem]) rfl ⟨_, M, rfl, (HM.out _ hE1), fun N e => by simp at e; exact e, fun e => absurd e Hlt.out, hE0.trans hE1⟩
  · have hq : (((M.length : Nat) : Int) == ((L.length : Nat) : Int)) = false := by rw [beq_eq_false_iff_ne]; omega
    have HF : Hid (fiS g h L (elems b) (f + 1) M = (elems b).findSome? (fun y => if (bset M).testBit y || !kpB g h (L.take (M.length + 1)) (M ++ [y]) then none else fiS g h L (elems b) f (M ++ [y]))) := Lib.hid (by
      conv => lhs; unfold fiS
      rw [if_neg hfull])
    have hml2 : M.length < L.length := by omega
    clear hfull
    go_enter Try.func108, Try.ntmps108
    go_wp2_with fail
    rw [← Hwb.out]
    refine (l3List_any b hb24 _).mono ?_
    rintro e1 w1 ⟨v1, rfl, hLE, hE1⟩
    obtain ⟨aoE, cE, adrE, rfl, hadrE, hcellE⟩ := hLE.ints.nats
    have hixE := ints_index (c := cE) elI szI hadrE
    have hE24 : ∀ y ∈ elems b, y < ord h := fun y hy => bit_lt hb2 (mem_elems.1 hy).2
    clear hadrE hLE
    obtain ⟨E, hEd⟩ : ∃ E, E = elems b := ⟨_, rfl⟩
    rw [← hEd] at hcellE hixE hE24 HF Hih ⊢
    have hElen : E.length ≤ 24 := by rw [hEd]; exact elems_len b
    have HEd := Lib.hid hEd
    clear hEd
    go_wp2_with fail
    go_loopw [13] (fun iv wr => ∃ k : Nat, k ≤ E.length ∧ iv = .int .i64 k ∧ Ext w1 wr ∧ Hid (∀ k', k' < k → (if (bset M).testBit (nthN E k') || !kpB g h (L.take (M.length + 1)) (M ++ [nthN E k']) then none else fiS g h L E f (M ++ [nthN E k'])) = none)) (fun iv _ => E.length - (intOf iv).toNat)
    case atStart => exact ⟨0, by omega, rfl, Ext.refl _, Lib.hid (by omega)⟩
    case round =>
      clear hE
      obtain ⟨k, hk, rfl, hE, H⟩ := hrel
      have hEw := hE1.trans hE
      by_cases hlt : k < E.length
      · have hyo := hE24 _ (nthN_mem hlt)
        have hck : ∀ W, Ext wr W → W.cell? (adrE k) = some (.int .i64 (nthN E k : Int)) := fun W hW => hcellE k _ hlt (hE.trans hW)
        have hrb : ∀ W, Ext wr W → Ext wb W := fun W hW => hEw.trans hW
        obtain ⟨Y, hY⟩ : ∃ Y, Y = nthN E k := ⟨_, rfl⟩
        have HY := Lib.hid hY
        rw [← hY] at hck hyo
        have hln : (castL M).length + [(Y : Int)].length ≤ 17592186044416 := by rw [castL_len]; simp; omega
        clear hY
        have hEwr := hE
        clear hE
        have hE := Ext.refl wr
        have HMi := Lib.hid (fun W (hW : Ext wr W) => (HM.out W (hrb W hW)).ints)
        have hMl : ((castL M).length : Int) = (M.length : Int) := by rw [castL_len]
        go_upto_region 7 with fail
        go_cut [14] (fun s14 wx => NxP wr M Y s14 wx)
        case first =>
          first | (go_region_held3 (fun W => Ext wr W ∧ W.cell? (adrE k) = some (.int .i64 (Y : Int))) (exact ⟨(by repeat (first | assumption | exact Ext.refl _ | (apply And.left; assumption) | apply Ext.drew | apply Ext.alloc)), hck _ (by repeat (first | assumption | exact Ext.refl _ | (apply And.left; assumption) | apply Ext.drew | apply Ext.alloc))⟩) (first | (have hOq := hOC; refine step_appendsE slI rfl _ _ rfl wr wr _ _ (castL M) [(Y : Int)] (Or.inr (by first | exact hOC | exact hOC.alloc _ | exact (hOC.alloc _).drew)) (Blk.ints1 (T := 3) (by repeat (first | (with_reducible assumption) | (with_reducible exact Blk.new _ _ _) | ((with_reducible refine Blk.new' ?_); simp [go_sem]; done) | (with_reducible apply Blk.alloc) | (with_reducible apply Blk.drew) | (with_reducible refine Blk.ext ?_ hEC)))) (by repeat (first | assumption | exact Ext.refl _ | (apply And.left; assumption) | apply Ext.drew | apply Ext.alloc)) hln rfl rfl ?_; intro vD wD hOD hXD hTD) | (refine step_copy2 slI rfl _ _ rfl _ _ (castL M) rfl rfl (by repeat (first | (with_reducible assumption) | (with_reducible exact Blk.new _ _ _) | ((with_reducible refine Blk.new' ?_); simp [go_sem]; done) | (with_reducible apply Blk.alloc) | (with_reducible apply Blk.drew))) (HMi.out _ (by repeat (first | assumption | exact Ext.refl _ | (apply And.left; assumption) | apply Ext.drew | apply Ext.alloc))) wr (by first | exact Nat.le_refl _ | omega | (simp; omega)) (by repeat (first | assumption | exact Ext.refl _ | (apply And.left; assumption) | apply Ext.drew | apply Ext.alloc)) ?_; intro aoC cC wC hOC hZC hEC; have hXC := Ext.trans (a := wr) (by repeat (first | assumption | exact Ext.refl _ | (apply And.left; assumption) | apply Ext.drew | apply Ext.alloc)) hEC))) | (fail "the region")
          all_goals (go_wp2_with fail; go_meet; exact NxP.of hOD hXD)
        case rest =>
          obtain ⟨aoN, cN, rfl, hON, hEN⟩ := hcut
          have cS := fun W (hW : Ext wc W) => sSetOf_any u h (.slice aoN (M.length + 1) cN) (castL (M ++ [Y])) W (HU.out W (hrb W (hEN.trans hW))) (hON.ext hW).ints
          rw [soB_snoc Hh.out hMn hMo hyo] at cS
          have HN := Lib.hid (fun W (hW : Ext wc W) => hON.ext hW)
          have HnM : Hid ((M ++ [Y]).length = M.length + 1) := Lib.hid (by simp)
          have Hml2 := Lib.hid hml2
          have hmL : (M.length : Int) + 1 ≤ (L.length : Int) := by omega
          have hL24 : ∀ y ∈ L.take (M.length + 1), y < 24 := fun y hy => Nat.lt_of_lt_of_le (hLo y (List.mem_of_mem_take hy)) hog.2
          have hM24 : ∀ y ∈ M ++ [Y], y < 24 := fun y hy => by
            rw [List.mem_append, List.mem_singleton] at hy
            rcases hy with hy | rfl
            · exact Nat.lt_of_lt_of_le (hMo y hy) hoh.2
            · exact Nat.lt_of_lt_of_le hyo hoh.2
          have HMo2 : Hid (∀ y ∈ M ++ [Y], y < ord h) := Lib.hid fun y hy => by
            rw [List.mem_append, List.mem_singleton] at hy
            rcases hy with hy | rfl
            · exact hMo y hy
            · exact hyo
          have Htk : Hid ((L.take (M.length + 1)).length = M.length + 1) := Lib.hid (by rw [List.length_take]; omega)
          clear hON hck hixE
          have hwc : ∀ W, Ext wc W → Ext wb W := fun W hW => hrb W (hEN.trans hW)
          cases ht : (bset M).testBit Y
          · rw [ht] at cS
            simp only [Bool.not_false] at cS
            have Hnd : Hid ((M ++ [Y]).Nodup) := Lib.hid (by
              rw [List.nodup_append]
              refine ⟨hMn, by simp, fun a ha b hb => ?_⟩
              rw [List.mem_singleton] at hb
              subst hb
              rintro rfl
              rw [bset_mem] at ht
              simp [ha] at ht)
            have Ht := Lib.hid ht
            clear ht
            go_wp2_with fail
            refine (cS _ (Ext.refl _)).mono ?_
            rintro e w2 ⟨rfl, hE2⟩
            have hE2b := hwc _ hE2
            have kb0 := fun U => b0 _ (hE2b.trans (lat_ext w2 U))
            have kb1 := fun U => b1 _ (hE2b.trans (lat_ext w2 U))
            have cK := fun U => sKeeps_any v u g h (.slice aoL (M.length + 1) cL) (.slice aoN (M.length + 1) cN) (L.take (M.length + 1)) (M ++ [Y]) (Lat w2 U) (HV.out _ (hE2b.trans (lat_ext w2 U))) (HU.out _ (hE2b.trans (lat_ext w2 U))) Hg Hh (by rw [castL_take]; exact (HL.out _ (hE2b.trans (lat_ext w2 U))).take (by rw [castL_len]; omega)) (HN.out _ (hE2.trans (lat_ext w2 U))).ints hL24 hM24 (by rw [Htk.out, HnM.out]; omega) (by rw [Htk.out]; omega)
            clear cS
            have hcL := (HL.out _ hE2b).cap
            have hsl := fun W => run_cut (P := Try.prog) elI szI aoL L.length cL ((M.length : Int) + 1) (by omega) (by omega) W
            have hsa := fun W => run_cutAt (P := Try.prog) elI szI aoL L.length cL ((M.length : Int) + 1) (by omega) (by omega) W
            rw [show ((M.length : Int) + 1).toNat = M.length + 1 by omega] at hsl hsa
            clear hcL
            have hE := Ext.refl w2
            cases hk : kpB g h (L.take (M.length + 1)) (M ++ [Y])
            · rw [hk] at cK
              have Hno : Hid ((if (bset M).testBit (nthN E k) || !kpB g h (L.take (M.length + 1)) (M ++ [nthN E k]) then none else fiS g h L E f (M ++ [nthN E k])) = none) := Lib.hid (by rw [← HY.out, hk]; simp)
              clear hk
              go_wp2_with fail
              (refine wp_region_lat (w2) (by kernel_rfl) (by kernel_rfl) hE ?_); (repeat (go_big_quiet_step (first | (go_at_call 154; with_reducible exact Calls.lat (cK _))))); (refine wpQuiet_nil ?_); (intro W hE'); (replace hE := lat_of hE'); (clear hE')
              go_wp2_with fail
              go_roundw
              case rel => exact ⟨k + 1, by omega, by go_num, hEwr.trans (hEN.trans (hE2.trans hE)), Lib.hid fun k' hk' => by by_cases e : k' = k; (subst e; exact Hno.out); exact H.out k' (by omega)⟩
              case measure => (simp [intOf]; omega)
            · rw [hk] at cK
              have Hyes : Hid ((if (bset M).testBit (nthN E k) || !kpB g h (L.take (M.length + 1)) (M ++ [nthN E k]) then none else fiS g h L E f (M ++ [nthN E k])) = fiS g h L E f (M ++ [Y])) := Lib.hid (by rw [← HY.out, hk, Ht.out]; rfl)
              clear hk
              go_wp2_with fail
              (refine wp_region_lat (w2) (by kernel_rfl) (by kernel_rfl) hE ?_); (repeat (go_big_quiet_step (first | (go_at_call 154; with_reducible exact Calls.lat (cK _))))); (refine wpQuiet_nil ?_); (intro W hE'); (replace hE := lat_of hE'); (clear hE')
              have hEq := hE2b.trans hE
              have cR := fun W (hW : Ext w2 W) => Hih.out (M ++ [Y]) (.slice aoN (M.length + 1) cN) W0 W (HV.out _ (hE2b.trans hW)) (HU.out _ (hE2b.trans hW)) (HL.out _ (hE2b.trans hW)) ((HN.out _ (hE2.trans hW)).mono (hE0W.trans hEw)) (hE0W.trans (hE2b.trans hW)) Hnd.out HMo2.out (by rw [HnM.out]; omega) (by rw [HnM.out]; omega)
              cases hr : fiS g h L E f (M ++ [Y]) with
              | none =>
                rw [hr] at cR Hyes
                go_wp2_with fail
                refine (cR _ hE).mono ?_
                rintro e w3 ⟨v3, Z, rfl, hO3, hZ1, hZ2, hE3⟩
                clear hZ1 hZ2 cR hr
                go_wp2_with fail
                go_roundw
                case rel => exact ⟨k + 1, by omega, by go_num, hEwr.trans (hEN.trans (hE2.trans (hE.trans hE3))), Lib.hid fun k' hk' => by by_cases e : k' = k; (subst e; exact Hyes.out); exact H.out k' (by omega)⟩
                case measure => (simp [intOf]; omega)
              | some N =>
                rw [hr] at cR Hyes
                have HFs : Hid (fiS g h L E (f + 1) M = some N) := Lib.hid (by rw [HF.out]; exact findSome_at hlt H.out Hyes.out)
                go_wp2_with fail
                refine (cR _ hE).mono ?_
                rintro e w3 ⟨v3, Z, rfl, hO3, hZ1, hZ2, hE3⟩
                have HZ := Lib.hid (hZ1 N rfl)
                have hEf := hE0.trans (hE2b.trans (hE.trans hE3))
                clear hZ1 hZ2 cR hr
                go_wp2_with fail
                rw [← HEd.out, HFs.out]
                exact bodyPost_ret (v := .tuple #[v3, .bool true]) (by simp [results, Try.results108, go_sem]) rfl ⟨_, Z, rfl, hO3, fun N' e => by cases e; exact HZ.out, fun _ e => by simp at e, hEf⟩
          · rw [ht] at cS
            simp only [Bool.not_true] at cS
            have Hno : Hid ((if (bset M).testBit (nthN E k) || !kpB g h (L.take (M.length + 1)) (M ++ [nthN E k]) then none else fiS g h L E f (M ++ [nthN E k])) = none) := Lib.hid (by rw [← HY.out, ht]; rfl)
            clear ht
            go_wp2_with fail
            refine (cS _ (Ext.refl _)).mono ?_
            rintro e w2 ⟨rfl, hE2⟩
            have hE := Ext.refl w2
            go_wp2_with fail
            (refine wp_region_lat (w2) (by kernel_rfl) (by kernel_rfl) hE ?_); (repeat (go_big_quiet_step (first | (fail "no call")))); (refine wpQuiet_nil ?_); (intro W hE'); (replace hE := lat_of hE'); (clear hE')
            go_wp2_with fail
            go_roundw
            case rel => exact ⟨k + 1, by omega, by go_num, hEwr.trans (hEN.trans (hE2.trans hE)), Lib.hid fun k' hk' => by by_cases e : k' = k; (subst e; exact Hno.out); exact H.out k' (by omega)⟩
            case measure => (simp [intOf]; omega)
      · have hkl : k = E.length := by omega
        have HFn : Hid (fiS g h L E (f + 1) M = none) := Lib.hid (by rw [HF.out]; exact findSome_none fun k' hk' => H.out k' (by omega))
        have hEb := hE1.trans hE
        have hOe : Own 3 W0 (wr.alloc (.cells #[] 3)) (.slice (some ⟨wr.heap.size, 0, none⟩) 0 0) (castL []) := (own_made (TI := 3) (n := 0) (by omega) hE (castL []) rfl).mono (hE0W.trans hE1)
        have hEe := (hE0.trans hEb).alloc (.cells #[] 3)
        clear hkl
        go_wp2_with fail
        rw [← HEd.out, HFn.out]
        exact bodyPost_ret (v := .tuple #[.slice (some ⟨wr.heap.size, 0, none⟩) 0 0, .bool false]) (by simp [results, Try.results108, go_sem]) rfl ⟨_, [], rfl, hOe, fun N e => by simp at e, fun _ _ => rfl, hEe⟩
end Go.Zz

/- Two results of which the second alone is told. -/
namespace Go.Zz
open Go.RowKit
/-- e gives two values, the second of which is b -/
def TB (b : Bool) (e : Ending) : Prop := ∃ v, e = .returned (.tuple #[v, .bool b])
theorem TB.mk (v : Value) (b : Bool) : TB b (.returned (.tuple #[v, .bool b])) := ⟨v, rfl⟩
end Go.Zz
