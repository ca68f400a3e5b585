/- Sets out of lists; maps that keep sums: SetOf, l15Fine, IsFreimanMap, IsFreimanIso of the reference. -/
import Derived.Test.YtopokpamhojooaaC85
import Derived.Test.YtopokpamhojooaaC29
namespace Go.Zz
open Go.RowKit Go.Proofs
set_option maxHeartbeats 1000000
set_option maxRecDepth 4000

theorem sSetOf_any (v : Value) (l : List Int) (vX : Value) (X : List Int) (w : World) (h : Ints w v l) (hX : Ints w vX X) :
    Calls Try.prog 74 #[.agg #[v], vX] w fun e w' => e = .returned (.tuple #[.int .i64 (soV l X), .bool (soB l X)]) ∧ Ext w w' := by
  obtain ⟨wb, hwb⟩ : ∃ wb, wb = w.alloc (.cells #[v] 30) := ⟨_, rfl⟩
  have hE0 := (Ext.refl w).alloc (.cells #[v] 30)
  have hb := box_cell w v 30
  rw [← hwb] at hE0 hb
  have hg : ∀ W, Ext wb W → Ints W v l := fun W hW => h.ext (hE0.trans hW)
  have hE := Ext.refl wb
  have Hsz : Hid (w.heap.size + 1 = wb.heap.size) := Lib.hid (by rw [hwb]; simp [go_sem])
  have Hwb := Lib.hid hwb
  clear hwb h
  obtain ⟨ao, c, adr, rfl, hlen, hadr, hcell⟩ := hX.op
  have hix := ints_index (c := c) elI szI hadr
  clear hadr hX
  go_enter Try.func74, Try.ntmps74
  go_wp2_with fail
  rw [← Hwb.out]
  go_loopw [6, 7] (fun av iv wr => ∃ (k a : Nat), k ≤ X.length ∧ iv = .int .i64 k ∧ av = .int .i64 a ∧ a < 2 ^ 24 ∧ Ext wb wr ∧ Hid (soG l X 0 = soG l (X.drop k) a)) (fun _ iv _ => X.length - (intOf iv).toNat)
  case atStart => exact ⟨0, 0, by omega, rfl, rfl, by decide, hE, Lib.hid rfl⟩
  case round =>
    clear hE
    obtain ⟨k, a, hk, rfl, rfl, ha, hE, H⟩ := hrel
    by_cases hlt : k < X.length
    · have hd := drop_nth X k hlt
      have hck := fun U => hcell k _ hlt (hE0.trans (hE.trans (lat_ext wr U)))
      have kb := fun U => hb _ (hE.trans (lat_ext wr U))
      have cI := fun U => l2Is_any v l (nth X k) (Lat wr U) (hg _ (hE.trans (lat_ext wr U)))
      have hEb := hE
      clear hE
      have hE := Ext.refl wr
      cases hh : hasB l (nth X k)
      · have Hn : Hid (soB l X = false ∧ soV l X = 0) := Lib.hid (soG_no (by rw [H.out, hd, soG_hno hh]))
        rw [hh] at cI
        clear hd hh
        go_wp2_with fail
        (refine wp_region_lat (wr) (by kernel_rfl) (by kernel_rfl) hE ?_); (repeat (go_big_quiet_step (first | (go_at_call 129; with_reducible exact Calls.lat (cI _))))); (refine wpQuiet_nil ?_); (intro W hE'); (replace hE := lat_of hE'); (clear hE')
        go_wp2_with fail
        exact bodyPost_ret (v := .tuple #[.int .i64 0, .bool false]) (by simp [results, Try.results74, go_sem]) rfl ⟨by rw [Hn.out.1, Hn.out.2], hE0.trans (hEb.trans hE)⟩
      · rw [hh] at cI
        obtain ⟨n, hn, hno, hgr⟩ := hasB_nat hh
        have hob := ord_bd hgr
        have hck3 : ∀ W, Ext wr W → W.cell? (adr k) = some (.int .i64 (n : Int)) := fun W hW => by rw [← hn]; exact hcell k _ hlt (hE0.trans (hEb.trans hW))
        rw [hn] at hd hh cI hck
        have hsh := ishr_nat (a := a) (n := n) (by omega)
        have hbt := bit_test' (a := a) (n := n) (by omega) (by omega)
        have hs1 := ishl_one (n := n) (by omega)
        have hpw := pw_le (n := n) (by omega)
        cases ht : a.testBit n
        · rw [ht] at hbt
          have Hn : Hid (soG l X 0 = soG l (X.drop (k + 1)) (a ||| 2 ^ n)) := Lib.hid (by rw [H.out, hd, soG_go hh ht])
          have Ha : Hid (((a : Int) + ((pw n : Nat) : Int)) = ((a ||| 2 ^ n : Nat) : Int)) := Lib.hid (by rw [← add_bit ht, pw_eq]; simp)
          have hab : a ||| 2 ^ n < 2 ^ 24 := Nat.or_lt_two_pow ha (Nat.pow_lt_pow_right (by omega) (by omega))
          clear hd hh ht hgr hn
          go_wp2_with fail
          (refine wp_region_lat (wr) (by kernel_rfl) (by kernel_rfl) hE ?_); (repeat (go_big_quiet_step (first | (go_at_call 129; with_reducible exact Calls.lat (cI _))))); (refine wpQuiet_nil ?_); (intro W hE'); (replace hE := lat_of hE'); (clear hE')
          go_wp2_with fail
          go_roundw
          case rel => exact ⟨k + 1, a ||| 2 ^ n, by omega, by go_num, by rw [Ha.out], hab, hEb.trans hE, Hn⟩
          case measure => (simp [intOf]; omega)
        · rw [ht] at hbt
          have Hn : Hid (soB l X = false ∧ soV l X = 0) := Lib.hid (soG_no (by rw [H.out, hd, soG_bno ht]))
          clear hd hh ht hgr hn
          go_wp2_with fail
          (refine wp_region_lat (wr) (by kernel_rfl) (by kernel_rfl) hE ?_); (repeat (go_big_quiet_step (first | (go_at_call 129; with_reducible exact Calls.lat (cI _))))); (refine wpQuiet_nil ?_); (intro W hE'); (replace hE := lat_of hE'); (clear hE')
          go_wp2_with fail
          exact bodyPost_ret (v := .tuple #[.int .i64 0, .bool false]) (by simp [results, Try.results74, go_sem]) rfl ⟨by rw [Hn.out.1, Hn.out.2], hE0.trans (hEb.trans hE)⟩
    · have hkl : k = X.length := by omega
      have Hn : Hid (soB l X = isGrp l ∧ soV l X = (a : Int)) := Lib.hid (soG_yes (by rw [H.out, hkl, List.drop_length]; rfl))
      clear hkl
      go_wp2_with (refine (sIsGroup_any _ _ _ (hg _ hE)).mono ?_; rintro e w' ⟨rfl, hE'⟩; replace hE := hE.trans hE')
      exact bodyPost_ret (v := .tuple #[.int .i64 a, .bool (isGrp l)]) (by simp [results, Try.results74, go_sem]) rfl ⟨by rw [Hn.out.1, Hn.out.2], hE0.trans hE⟩
theorem sFine_any (v u : Value) (g h : List Int) (vX vY : Value) (X Y : List Int) (w : World) (hv : Ints w v g) (hu : Ints w u h) (hX : Ints w vX X) (hY : Ints w vY Y) :
    Calls Try.prog 163 #[.agg #[v], .agg #[u], vX, vY] w fun e w' => e = .returned (.bool (fineF g h X Y)) ∧ Ext w w' := by
  obtain ⟨wb, hwb⟩ : ∃ wb, wb = (w.alloc (.cells #[v] 30)).alloc (.cells #[u] 30) := ⟨_, rfl⟩
  have hE0 : Ext w wb := by rw [hwb]; exact ((Ext.refl _).alloc _).alloc _
  have B0 : Blk wb w.heap.size 30 #[v] := by rw [hwb]; exact (Blk.new _ _ _).alloc _
  have B1 : Blk wb (w.heap.size + 1) 30 #[u] := by rw [hwb]; simpa using Blk.new (w.alloc (.cells #[v] 30)) 30 #[u]
  have b0 : ∀ W, Ext wb W → W.cell? ⟨w.heap.size, 0, none⟩ = some v := fun W hW => (B0.ext hW).cell (i := 0) rfl
  have b1 : ∀ W, Ext wb W → W.cell? ⟨w.heap.size + 1, 0, none⟩ = some u := fun W hW => (B1.ext hW).cell (i := 0) rfl
  have HV := Lib.hid (fun W (hW : Ext wb W) => hv.ext (hE0.trans hW))
  have HU := Lib.hid (fun W (hW : Ext wb W) => hu.ext (hE0.trans hW))
  have hE := Ext.refl wb
  have Hwb := Lib.hid hwb
  clear hv hu hwb B0 B1
  have HX := Lib.hid (fun W (hW : Ext wb W) => hX.ext (hE0.trans hW))
  obtain ⟨aoX, cX, -, rfl, hlenX, -, -⟩ := hX.op
  obtain ⟨ao, c, adr, rfl, hlen, hadr, hcell⟩ := hY.op
  have hix := ints_index (c := c) elI szI hadr
  clear hadr hX hY
  go_enter Try.func163, Try.ntmps163
  go_wp2_with fail
  rw [← Hwb.out]
  refine (sSetOf_any _ _ _ _ _ (HV.out _ hE) (HX.out _ hE)).mono ?_
  rintro e w1 ⟨rfl, hE1⟩
  replace hE := hE.trans hE1
  clear hE1
  go_wp2_with fail
  go_loopw [11] (fun iv wr => ∃ k : Nat, k ≤ Y.length ∧ iv = .int .i64 k ∧ Ext wb wr ∧ Hid (∀ j, j < k → hasB h (nth Y j) = true)) (fun iv _ => Y.length - (intOf iv).toNat)
  case atStart => exact ⟨0, by omega, rfl, hE, Lib.hid (by omega)⟩
  case round =>
    clear hE
    obtain ⟨k, hk, rfl, hE, H⟩ := hrel
    by_cases hlt : k < Y.length
    · have hck := fun U => hcell k _ hlt (hE0.trans (hE.trans (lat_ext wr U)))
      have kb := fun U => b1 _ (hE.trans (lat_ext wr U))
      have cI := fun U => l2Is_any u h (nth Y k) (Lat wr U) (HU.out _ (hE.trans (lat_ext wr U)))
      have hEb := hE
      clear hE
      have hE := Ext.refl wr
      cases hh : hasB h (nth Y k)
      · have Hn : Hid (fineF g h X Y = false) := Lib.hid (by
          unfold fineF
          have : Y.all (hasB h) = false := by
            rw [List.all_eq_false]; exact ⟨_, nth_mem hlt, by rw [hh]; simp⟩
          rw [this]; rfl)
        rw [hh] at cI
        clear hh
        go_wp2_with fail
        (refine wp_region_lat (wr) (by kernel_rfl) (by kernel_rfl) hE ?_); (repeat (go_big_quiet_step (first | (go_at_call 129; with_reducible exact Calls.lat (cI _))))); (refine wpQuiet_nil ?_); (intro W hE'); (replace hE := lat_of hE'); (clear hE')
        go_wp2_with fail
        go_ret
        exact ⟨ret_bool Hn.out.symm, hE0.trans (hEb.trans hE)⟩
      · have Hh := Lib.hid hh
        rw [hh] at cI
        clear hh
        go_wp2_with fail
        (refine wp_region_lat (wr) (by kernel_rfl) (by kernel_rfl) hE ?_); (repeat (go_big_quiet_step (first | (go_at_call 129; with_reducible exact Calls.lat (cI _))))); (refine wpQuiet_nil ?_); (intro W hE'); (replace hE := lat_of hE'); (clear hE')
        go_wp2_with fail
        go_roundw
        case rel => exact ⟨k + 1, by omega, by go_num, hEb.trans hE, Lib.hid fun j hj => by by_cases e : j = k; (subst e; exact Hh.out); exact H.out j (by omega)⟩
        case measure => (simp [intOf]; omega)
    · have Hn : Hid (fineF g h X Y = (soB g X && isGrp h && decide (X.length = Y.length) && decide (1 ≤ X.length ∧ X.length ≤ 6))) := Lib.hid (by
        unfold fineF
        have : Y.all (hasB h) = true := List.all_eq_true.2 fun x hx => by
          obtain ⟨j, hj, rfl⟩ := mem_nth hx; exact H.out j (by omega)
        rw [this]; rfl)
      have cG := fun W (hW : Ext wb W) => sIsGroup_any u h W (HU.out W hW)
      have cI := fun W => l1In_any ((X.length : Nat) : Int) 1 6 W
      have hin : inB ((X.length : Nat) : Int) 1 6 = decide (1 ≤ X.length ∧ X.length ≤ 6) := by
        rw [Bool.eq_iff_iff, inB_t, decide_eq_true_iff]; omega
      rw [hin] at cI
      have heq : (((X.length : Nat) : Int) == ((Y.length : Nat) : Int)) = decide (X.length = Y.length) := by
        rw [Bool.eq_iff_iff, beq_iff_eq, decide_eq_true_iff]; omega
      clear hin
      obtain ⟨d1, hd1⟩ : ∃ d, d = soB g X := ⟨_, rfl⟩
      obtain ⟨d2, hd2⟩ : ∃ d, d = isGrp h := ⟨_, rfl⟩
      obtain ⟨d3, hd3⟩ : ∃ d, d = decide (X.length = Y.length) := ⟨_, rfl⟩
      obtain ⟨d4, hd4⟩ : ∃ d, d = decide (1 ≤ X.length ∧ X.length ≤ 6) := ⟨_, rfl⟩
      rw [← hd1, ← hd2, ← hd3, ← hd4] at Hn
      rw [← hd1]
      rw [← hd2] at cG
      rw [← hd3] at heq
      rw [← hd4] at cI
      clear hd1 hd2 hd3 hd4
      cases d1
      · go_wp2_with fail
        go_ret
        exact ⟨ret_bool Hn.out.symm, hE0.trans hE⟩
      cases d2
      · go_wp2_with (refine (cG _ hE).mono ?_; rintro e w' ⟨rfl, hE'⟩; replace hE := hE.trans hE')
        go_ret
        exact ⟨ret_bool Hn.out.symm, hE0.trans hE⟩
      cases d3
      · go_wp2_with (refine (cG _ hE).mono ?_; rintro e w' ⟨rfl, hE'⟩; replace hE := hE.trans hE')
        go_ret
        exact ⟨ret_bool Hn.out.symm, hE0.trans hE⟩
      go_wp2_with (first | (go_at_call 50; refine (cG _ hE).mono ?_; rintro e w' ⟨rfl, hE'⟩; replace hE := hE.trans hE') | (go_at_call 96; refine (cI _).mono ?_; rintro e w' ⟨rfl, rfl⟩))
      go_ret
      exact ⟨ret_bool (by rw [Hn.out]; rfl), hE0.trans hE⟩
theorem fine_nat {g h X Y : List Int} (H : fineF g h X Y = true) : isGrp g = true ∧ isGrp h = true ∧ (∃ L M, X = castL L ∧ Y = castL M ∧ (∀ y ∈ L, y < 24) ∧ (∀ y ∈ M, y < 24)) ∧ X.length = Y.length ∧ X.length ≤ 6 := by
  unfold fineF at H
  simp only [Bool.and_eq_true, decide_eq_true_eq] at H
  obtain ⟨h1, ⟨⟨h2, h3⟩, h4⟩, -, h5⟩ := H
  unfold soB at h2
  rw [Bool.and_eq_true] at h2
  have key : ∀ (X : List Int) (a : Nat), (soG g X a).isSome = true → ∀ x ∈ X, hasB g x = true := by
    intro X
    induction X with
    | nil => intro a _ x hx; cases hx
    | cons y X ih =>
      intro a e x hx
      unfold soG at e
      split at e
      · next hc =>
        rw [Bool.and_eq_true] at hc
        rcases List.mem_cons.1 hx with rfl | hx
        · exact hc.1
        · exact ih _ e x hx
      · cases e
  have toN : ∀ (l : List Int) (X : List Int), (∀ x ∈ X, hasB l x = true) → X = castL (natL X) ∧ ∀ y ∈ natL X, y < 24 := by
    intro l X hX
    constructor
    · unfold castL natL; rw [List.map_map]
      conv => lhs; rw [← List.map_id X]
      refine List.map_congr_left fun x hx => ?_
      obtain ⟨n, rfl, -, -⟩ := hasB_nat (hX x hx); rfl
    · intro y hy
      unfold natL at hy
      obtain ⟨x, hx, rfl⟩ := List.mem_map.1 hy
      obtain ⟨n, rfl, hn, hg⟩ := hasB_nat (hX x hx)
      have := (ord_bd hg).2
      show n < 24; omega
  obtain ⟨a1, a2⟩ := toN g X (key X 0 h2.1)
  obtain ⟨b1, b2⟩ := toN h Y (List.all_eq_true.1 h1)
  exact ⟨h2.2, h3, ⟨_, _, a1, b1, a2, b2⟩, h4, h5⟩
theorem sMap_any (v u : Value) (g h : List Int) (vX vY : Value) (X Y : List Int) (w : World) (hv : Ints w v g) (hu : Ints w u h) (hX : Ints w vX X) (hY : Ints w vY Y) :
    Calls Try.prog 133 #[.agg #[v], .agg #[u], vX, vY] w fun e w' => e = .returned (.bool (fmF g h X Y)) ∧ Ext w w' := by
  obtain ⟨wb, hwb⟩ : ∃ wb, wb = (w.alloc (.cells #[v] 30)).alloc (.cells #[u] 30) := ⟨_, rfl⟩
  have hE0 : Ext w wb := by rw [hwb]; exact ((Ext.refl _).alloc _).alloc _
  have B0 : Blk wb w.heap.size 30 #[v] := by rw [hwb]; exact (Blk.new _ _ _).alloc _
  have B1 : Blk wb (w.heap.size + 1) 30 #[u] := by rw [hwb]; simpa using Blk.new (w.alloc (.cells #[v] 30)) 30 #[u]
  have b0 : ∀ W, Ext wb W → W.cell? ⟨w.heap.size, 0, none⟩ = some v := fun W hW => (B0.ext hW).cell (i := 0) rfl
  have b1 : ∀ W, Ext wb W → W.cell? ⟨w.heap.size + 1, 0, none⟩ = some u := fun W hW => (B1.ext hW).cell (i := 0) rfl
  have HV := Lib.hid (fun W (hW : Ext wb W) => hv.ext (hE0.trans hW))
  have HU := Lib.hid (fun W (hW : Ext wb W) => hu.ext (hE0.trans hW))
  have hE := Ext.refl wb
  have Hwb := Lib.hid hwb
  clear hv hu hwb B0 B1
  have HX := Lib.hid (fun W (hW : Ext wb W) => hX.ext (hE0.trans hW))
  have HY := Lib.hid (fun W (hW : Ext wb W) => hY.ext (hE0.trans hW))
  clear hX hY
  have cF := fun W (hW : Ext wb W) => sFine_any v u g h vX vY X Y W (HV.out W hW) (HU.out W hW) (HX.out W hW) (HY.out W hW)
  cases hf : fineF g h X Y
  · have Hn : Hid (fmF g h X Y = false) := Lib.hid (by unfold fmF; rw [hf]; rfl)
    rw [hf] at cF
    go_enter Try.func133, Try.ntmps133
    go_wp2_with fail
    rw [← Hwb.out]
    refine (cF _ hE).mono ?_
    rintro e w' ⟨rfl, hE'⟩
    replace hE := hE.trans hE'
    go_wp2_with fail
    go_ret
    exact ⟨ret_bool Hn.out.symm, hE0.trans hE⟩
  · have Hn : Hid (fmF g h X Y = kpB g h (natL X) (natL Y)) := Lib.hid (by unfold fmF; rw [hf]; rfl)
    rw [hf] at cF
    obtain ⟨hg, hh, ⟨L, M, rfl, rfl, hL, hM⟩, hlm, hl6⟩ := fine_nat hf
    rw [castL_len, castL_len] at hlm
    rw [castL_len] at hl6
    rw [natL_cast, natL_cast] at Hn
    have cK := fun W (hW : Ext wb W) => sKeeps_any v u g h vX vY L M W (HV.out W hW) (HU.out W hW) (Lib.hid hg) (Lib.hid hh) (HX.out W hW) (HY.out W hW) hL hM (by omega) (by omega)
    clear hf hg hh hlm hL hM
    go_enter Try.func133, Try.ntmps133
    go_wp2_with fail
    rw [← Hwb.out]
    refine (cF _ hE).mono ?_
    rintro e w' ⟨rfl, hE'⟩
    replace hE := hE.trans hE'
    go_wp2_with (refine (cK _ hE).mono ?_; rintro e w' ⟨rfl, hE'⟩; replace hE := hE.trans hE')
    go_ret
    exact ⟨ret_bool Hn.out.symm, hE0.trans hE⟩
theorem sIso_any (v u : Value) (g h : List Int) (vX vY : Value) (X Y : List Int) (w : World) (hv : Ints w v g) (hu : Ints w u h) (hX : Ints w vX X) (hY : Ints w vY Y) :
    Calls Try.prog 75 #[.agg #[v], .agg #[u], vX, vY] w fun e w' => e = .returned (.bool (isoF g h X Y)) ∧ Ext w w' := by
  obtain ⟨wb, hwb⟩ : ∃ wb, wb = (w.alloc (.cells #[v] 30)).alloc (.cells #[u] 30) := ⟨_, rfl⟩
  have hE0 : Ext w wb := by rw [hwb]; exact ((Ext.refl _).alloc _).alloc _
  have B0 : Blk wb w.heap.size 30 #[v] := by rw [hwb]; exact (Blk.new _ _ _).alloc _
  have B1 : Blk wb (w.heap.size + 1) 30 #[u] := by rw [hwb]; simpa using Blk.new (w.alloc (.cells #[v] 30)) 30 #[u]
  have b0 : ∀ W, Ext wb W → W.cell? ⟨w.heap.size, 0, none⟩ = some v := fun W hW => (B0.ext hW).cell (i := 0) rfl
  have b1 : ∀ W, Ext wb W → W.cell? ⟨w.heap.size + 1, 0, none⟩ = some u := fun W hW => (B1.ext hW).cell (i := 0) rfl
  have HV := Lib.hid (fun W (hW : Ext wb W) => hv.ext (hE0.trans hW))
  have HU := Lib.hid (fun W (hW : Ext wb W) => hu.ext (hE0.trans hW))
  have hE := Ext.refl wb
  have Hwb := Lib.hid hwb
  clear hv hu hwb B0 B1
  have HX := Lib.hid (fun W (hW : Ext wb W) => hX.ext (hE0.trans hW))
  have HY := Lib.hid (fun W (hW : Ext wb W) => hY.ext (hE0.trans hW))
  clear hX hY
  have cF := fun W (hW : Ext wb W) => sMap_any v u g h vX vY X Y W (HV.out W hW) (HU.out W hW) (HX.out W hW) (HY.out W hW)
  have cG := fun W (hW : Ext wb W) => sMap_any u v h g vY vX Y X W (HU.out W hW) (HV.out W hW) (HY.out W hW) (HX.out W hW)
  cases hf : fmF g h X Y
  · have Hn : Hid (isoF g h X Y = false) := Lib.hid (by unfold isoF; rw [hf]; rfl)
    rw [hf] at cF
    go_enter Try.func75, Try.ntmps75
    go_wp2_with fail
    rw [← Hwb.out]
    refine (cF _ hE).mono ?_
    rintro e w' ⟨rfl, hE'⟩
    replace hE := hE.trans hE'
    go_wp2_with fail
    go_ret
    exact ⟨ret_bool Hn.out.symm, hE0.trans hE⟩
  · have Hn : Hid (isoF g h X Y = fmF h g Y X) := Lib.hid (by unfold isoF; rw [hf]; rfl)
    rw [hf] at cF
    go_enter Try.func75, Try.ntmps75
    go_wp2_with fail
    rw [← Hwb.out]
    refine (cF _ hE).mono ?_
    rintro e w' ⟨rfl, hE'⟩
    replace hE := hE.trans hE'
    go_wp2_with (refine (cG _ hE).mono ?_; rintro e w' ⟨rfl, hE'⟩; replace hE := hE.trans hE')
    go_ret
    exact ⟨ret_bool Hn.out.symm, hE0.trans hE⟩
end Go.Zz
