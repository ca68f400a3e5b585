/- How often a number stands; sums of parts; sequences with the sum zero and without such parts. -/
import Derived.Test.YtopokpamhojooaaGr7
import Derived.Test.YtopokpamhojooaaGr6
import Derived.Test.YtopokpamhojooaaGr3
import Derived.Test.YtopokpamhojooaaGr4
import Derived.Test.YtopokpamhojooaaGr5
namespace Go.Zz
open Go.RowKit Go.Proofs
set_option maxHeartbeats 1000000
set_option maxRecDepth 4000

theorem MultiplicityIn_any (u : Value) (xs : List Int) (x : Int) (w : World) (hu : Ints w u xs) :
    Calls Try.prog 86 #[u, .int .i64 x] w fun e w' => e = .returned (.int .i64 (mulI xs x : Nat)) ∧ w = w' := by
  obtain ⟨ao, c, adr, rfl, hlen, hadr, hcell⟩ := hu.op
  have hix := ints_index (c := c) elI szI hadr
  clear hadr hu
  go_enter Try.func86, Try.ntmps86
  go_wp2_with fail
  go_loop [5, 10] (fun n i => ∃ k : Nat, k ≤ xs.length ∧ i = .int .i64 k ∧ n = .int .i64 (mulTo xs x k : Nat)) (fun _ i => xs.length - (intOf i).toNat)
  case atStart => exact ⟨0, by omega, rfl, rfl⟩
  case round =>
    obtain ⟨k, hk, rfl, rfl⟩ := hrel
    have hm := mulTo_le xs x k
    by_cases hlt : k < xs.length
    · have hck := hcell k w hlt (Ext.refl _)
      by_cases e : nth xs k = x
      · have Hn := Lib.hid (mulTo_yes e)
        have hq1 : (x == nth xs k) = true := by rw [e]; simp
        have hq2 : (nth xs k == x) = true := by rw [e]; simp
        clear e
        go_wp2_with fail
        go_round
        case rel => exact ⟨k + 1, by omega, by go_num, by rw [Hn.out]; go_num⟩
        case measure => (simp [intOf]; omega)
      · have Hn := Lib.hid (mulTo_no e)
        have hq1 : (x == nth xs k) = false := by rw [beq_eq_false_iff_ne]; exact fun h => e h.symm
        have hq2 : (nth xs k == x) = false := by rw [beq_eq_false_iff_ne]; exact e
        clear e
        go_wp2_with fail
        go_round
        case rel => exact ⟨k + 1, by omega, by go_num, by rw [Hn.out]⟩
        case measure => (simp [intOf]; omega)
    · have hkl : k = xs.length := by omega
      subst hkl
      go_wp2_with fail
      go_ret
      exact ⟨rfl, rfl⟩
theorem sMultiplicityIn_any (u : Value) (xs : List Int) (x : Int) (w : World) (hu : Ints w u xs) :
    Calls Try.prog 117 #[u, .int .i64 x] w fun e w' => e = .returned (.int .i64 (mulI xs x : Nat)) ∧ w = w' := by
  obtain ⟨ao, c, adr, rfl, hlen, hadr, hcell⟩ := hu.op
  have hix := ints_index (c := c) elI szI hadr
  clear hadr hu
  go_enter Try.func117, Try.ntmps117
  go_wp2_with fail
  go_loop [5, 6] (fun n i => ∃ k : Nat, k ≤ xs.length ∧ i = .int .i64 k ∧ n = .int .i64 (mulTo xs x k : Nat)) (fun _ i => xs.length - (intOf i).toNat)
  case atStart => exact ⟨0, by omega, rfl, rfl⟩
  case round =>
    obtain ⟨k, hk, rfl, rfl⟩ := hrel
    have hm := mulTo_le xs x k
    by_cases hlt : k < xs.length
    · have hck := hcell k w hlt (Ext.refl _)
      by_cases e : nth xs k = x
      · have Hn := Lib.hid (mulTo_yes e)
        have hq1 : (x == nth xs k) = true := by rw [e]; simp
        have hq2 : (nth xs k == x) = true := by rw [e]; simp
        clear e
        go_wp2_with fail
        go_round
        case rel => exact ⟨k + 1, by omega, by go_num, by rw [Hn.out]; go_num⟩
        case measure => (simp [intOf]; omega)
      · have Hn := Lib.hid (mulTo_no e)
        have hq1 : (x == nth xs k) = false := by rw [beq_eq_false_iff_ne]; exact fun h => e h.symm
        have hq2 : (nth xs k == x) = false := by rw [beq_eq_false_iff_ne]; exact e
        clear e
        go_wp2_with fail
        go_round
        case rel => exact ⟨k + 1, by omega, by go_num, by rw [Hn.out]⟩
        case measure => (simp [intOf]; omega)
    · have hkl : k = xs.length := by omega
      subst hkl
      go_wp2_with fail
      go_ret
      exact ⟨rfl, rfl⟩
theorem subsums_any (v u : Value) (l : List Int) (X : List Nat) (w : World) (h : Ints w v l) (hu : Ints w u (castL X)) (Hgr : Hid (isGrp l = true)) (hX : Hid (∀ x ∈ X, x < 24)) :
    Calls Try.prog 143 #[.agg #[v], u] w fun e w' => e = .returned (.int .i64 (sbs l X : Nat)) ∧ Ext w w' := by
  obtain ⟨wb, hwb⟩ : ∃ wb, wb = w.alloc (.cells #[v] 30) := ⟨_, rfl⟩
  have hE0 := (Ext.refl w).alloc (.cells #[v] 30)
  have hb := box_cell w v 30
  rw [← hwb] at hE0 hb
  have hg : ∀ W, Ext wb W → Ints W v l := fun W hW => h.ext (hE0.trans hW)
  have hE := Ext.refl wb
  have Hsz : Hid (w.heap.size + 1 = wb.heap.size) := Lib.hid (by rw [hwb]; simp [go_sem])
  have Hwb := Lib.hid hwb
  clear hwb h
  have hu' := hu.ext hE0
  have hlen : X.length ≤ 17592186044416 := by obtain ⟨_, _, _, _, h', _⟩ := hu; simpa [castL_len] using h'
  obtain ⟨ao, c, adr, rfl, hadr, hcell⟩ := hu'.nats
  have hix := ints_index (c := c) elI szI hadr
  clear hadr hu hu'
  go_enter Try.func143, Try.ntmps143
  go_wp2_with fail
  rw [← Hwb.out]
  go_loopw [5, 10] (fun s i wr => ∃ k : Nat, k ≤ X.length ∧ i = .int .i64 k ∧ s = .int .i64 (sbs l (X.take k) : Nat) ∧ Ext wb wr) (fun _ i _ => X.length - (intOf i).toNat)
  case atStart => exact ⟨0, by omega, rfl, rfl, hE⟩
  case round =>
    clear hE
    obtain ⟨k, hk, rfl, rfl, hE⟩ := hrel
    by_cases hlt : k < X.length
    · have hx := hX.out _ (nthN_mem hlt)
      have hs := sbs_bd Hgr.out (X.take k) fun y hy => hX.out y (List.mem_of_mem_take hy)
      have Ht := Lib.hid (sbs_snoc l (X.take k) (nthN X k))
      have Ht2 := Lib.hid (take_nthN X k hlt)
      obtain ⟨S, hS⟩ : ∃ S, S = sbs l (X.take k) := ⟨_, rfl⟩
      rw [← hS] at hs Ht ⊢
      have hsh := shiftF_bd Hgr.out S (nthN X k)
      have h1 := ishl_one (n := nthN X k) (by omega)
      have h2 : ior (S : Int) (shiftF l S (nthN X k) : Int) = ((S ||| shiftF l S (nthN X k) : Nat) : Int) := ior_nat (by omega) (by omega)
      have h3 := ior_pw (Nat.or_lt_two_pow hs hsh) hx
      have cS := fun W (hW : Ext wr W) => shift_any v l S (nthN X k) W (hg _ (hE.trans hW)) Hgr hs hx
      have hck := fun U => hcell k _ hlt (hE.trans (lat_ext wr U))
      have hck0 := hcell k wr hlt hE
      have hbx := fun U => hb _ (hE.trans (lat_ext wr U))
      have hE1 := hE
      clear hE hS hsh
      have hE := Ext.refl wr
      go_wp2_with fail
      (refine wp_region_lat (wr) (by kernel_rfl) (by kernel_rfl) hE ?_); (repeat (go_big_quiet_step (first | (go_at_call 139; exact Calls.lat (cS _ (lat_ext wr _)))))); (refine wpQuiet_nil ?_); (intro W hE'); (replace hE := lat_of hE'); (clear hE')
      replace hE := hE1.trans hE
      go_wp2_with fail
      go_roundw
      case rel => exact ⟨k + 1, by omega, by go_num, by rw [Ht2.out, Ht.out], hE⟩
      case measure => (simp [intOf]; omega)
    · have hkl : k = X.length := by omega
      subst hkl
      go_wp2_with fail
      go_ret
      exact ⟨ret_int (by rw [List.take_length]), hE0.trans hE⟩
theorem l16Subsums_any (v u : Value) (l : List Int) (X : List Nat) (w : World) (h : Ints w v l) (hu : Ints w u (castL X)) (Hgr : Hid (isGrp l = true)) (hX : Hid (∀ x ∈ X, x < 24)) :
    Calls Try.prog 131 #[.agg #[v], u] w fun e w' => e = .returned (.int .i64 (sbs l X : Nat)) ∧ Ext w w' := by
  obtain ⟨wb, hwb⟩ : ∃ wb, wb = w.alloc (.cells #[v] 30) := ⟨_, rfl⟩
  have hE0 := (Ext.refl w).alloc (.cells #[v] 30)
  have hb := box_cell w v 30
  rw [← hwb] at hE0 hb
  have hg : ∀ W, Ext wb W → Ints W v l := fun W hW => h.ext (hE0.trans hW)
  have hE := Ext.refl wb
  have Hsz : Hid (w.heap.size + 1 = wb.heap.size) := Lib.hid (by rw [hwb]; simp [go_sem])
  have Hwb := Lib.hid hwb
  clear hwb h
  have hu' := hu.ext hE0
  have hlen : X.length ≤ 17592186044416 := by obtain ⟨_, _, _, _, h', _⟩ := hu; simpa [castL_len] using h'
  obtain ⟨ao, c, adr, rfl, hadr, hcell⟩ := hu'.nats
  have hix := ints_index (c := c) elI szI hadr
  clear hadr hu hu'
  go_enter Try.func131, Try.ntmps131
  go_wp2_with fail
  rw [← Hwb.out]
  go_loopw [5, 6] (fun s i wr => ∃ k : Nat, k ≤ X.length ∧ i = .int .i64 k ∧ s = .int .i64 (sbs l (X.take k) : Nat) ∧ Ext wb wr) (fun _ i _ => X.length - (intOf i).toNat)
  case atStart => exact ⟨0, by omega, rfl, rfl, hE⟩
  case round =>
    clear hE
    obtain ⟨k, hk, rfl, rfl, hE⟩ := hrel
    by_cases hlt : k < X.length
    · have hx := hX.out _ (nthN_mem hlt)
      have hs := sbs_bd Hgr.out (X.take k) fun y hy => hX.out y (List.mem_of_mem_take hy)
      have Ht := Lib.hid (sbs_snoc l (X.take k) (nthN X k))
      have Ht2 := Lib.hid (take_nthN X k hlt)
      obtain ⟨S, hS⟩ : ∃ S, S = sbs l (X.take k) := ⟨_, rfl⟩
      rw [← hS] at hs Ht ⊢
      have hsh := shiftF_bd Hgr.out S (nthN X k)
      have h1 := ishl_one (n := nthN X k) (by omega)
      have h2 : ior (S : Int) (shiftF l S (nthN X k) : Int) = ((S ||| shiftF l S (nthN X k) : Nat) : Int) := ior_nat (by omega) (by omega)
      have h3 := ior_pw (Nat.or_lt_two_pow hs hsh) hx
      have cS := fun W (hW : Ext wr W) => l3Shift_any v l S (nthN X k) W (hg _ (hE.trans hW)) Hgr hs hx
      have hck := fun U => hcell k _ hlt (hE.trans (lat_ext wr U))
      have hck0 := hcell k wr hlt hE
      have hbx := fun U => hb _ (hE.trans (lat_ext wr U))
      have hE1 := hE
      clear hE hS hsh
      have hE := Ext.refl wr
      go_wp2_with fail
      (refine wp_region_lat (wr) (by kernel_rfl) (by kernel_rfl) hE ?_); (repeat (go_big_quiet_step (first | (go_at_call 128; exact Calls.lat (cS _ (lat_ext wr _)))))); (refine wpQuiet_nil ?_); (intro W hE'); (replace hE := lat_of hE'); (clear hE')
      replace hE := hE1.trans hE
      go_wp2_with fail
      go_roundw
      case rel => exact ⟨k + 1, by omega, by go_num, by rw [Ht2.out, Ht.out], hE⟩
      case measure => (simp [intOf]; omega)
    · have hkl : k = X.length := by omega
      subst hkl
      go_wp2_with fail
      go_ret
      exact ⟨ret_int (by rw [List.take_length]), hE0.trans hE⟩
theorem IsZeroSum_any (v u : Value) (l xs : List Int) (w : World) (h : Ints w v l) (hu : Ints w u xs) :
    Calls Try.prog 85 #[.agg #[v], u] w fun e w' => e = .returned (.bool (zsB l xs)) ∧ Ext w w' := by
  obtain ⟨wb, hwb⟩ : ∃ wb, wb = w.alloc (.cells #[v] 30) := ⟨_, rfl⟩
  have hE0 := (Ext.refl w).alloc (.cells #[v] 30)
  have hb := box_cell w v 30
  rw [← hwb] at hE0 hb
  have hg : ∀ W, Ext wb W → Ints W v l := fun W hW => h.ext (hE0.trans hW)
  have hE := Ext.refl wb
  have Hsz : Hid (w.heap.size + 1 = wb.heap.size) := Lib.hid (by rw [hwb]; simp [go_sem])
  have Hwb := Lib.hid hwb
  clear hwb h
  have hbx := hb wb hE
  have HU := Lib.hid (fun W (hW : Ext wb W) => hu.ext (hE0.trans hW))
  cases hs : seqB l xs
  · have Hs := Lib.hid (zsB_no hs)
    have cS := fun W (hW : Ext wb W) => IsSequence_val v u l xs W (hg _ hW) (HU.out _ hW) hs
    go_enter Try.func85, Try.ntmps85
    go_wp2_with fail
    rw [← Hwb.out]
    refine (cS _ hE).mono ?_
    rintro e w1 ⟨rfl, hE1⟩
    go_wp2_with fail
    go_ret
    exact ⟨ret_bool Hs.out.symm, hE0.trans hE1⟩
  · have cS := fun W (hW : Ext wb W) => IsSequence_val v u l xs W (hg _ hW) (HU.out _ hW) hs
    obtain ⟨X, rfl, -, -, hgr, hX⟩ := seqB_nat hs
    have Hs := Lib.hid (zsB_yes hs)
    have cT := fun W (hW : Ext wb W) => total_any v u l X W (hg _ hW) (HU.out _ hW) (Lib.hid hgr) (Lib.hid hX)
    clear hX hgr
    go_enter Try.func85, Try.ntmps85
    go_wp2_with fail
    rw [← Hwb.out]
    refine (cS _ hE).mono ?_
    rintro e w1 ⟨rfl, hE1⟩
    have hb1 := hb w1 hE1
    go_wp2_with fail
    refine (cT _ hE1).mono ?_
    rintro e w2 ⟨rfl, hE2⟩
    go_wp2_with fail
    go_ret
    exact ⟨ret_bool Hs.out.symm, hE0.trans (hE1.trans hE2)⟩
theorem sIsZeroSum_any (v u : Value) (l xs : List Int) (w : World) (h : Ints w v l) (hu : Ints w u xs) :
    Calls Try.prog 71 #[.agg #[v], u] w fun e w' => e = .returned (.bool (zsB l xs)) ∧ Ext w w' := by
  obtain ⟨wb, hwb⟩ : ∃ wb, wb = w.alloc (.cells #[v] 30) := ⟨_, rfl⟩
  have hE0 := (Ext.refl w).alloc (.cells #[v] 30)
  have hb := box_cell w v 30
  rw [← hwb] at hE0 hb
  have hg : ∀ W, Ext wb W → Ints W v l := fun W hW => h.ext (hE0.trans hW)
  have hE := Ext.refl wb
  have Hsz : Hid (w.heap.size + 1 = wb.heap.size) := Lib.hid (by rw [hwb]; simp [go_sem])
  have Hwb := Lib.hid hwb
  clear hwb h
  have hbx := hb wb hE
  have HU := Lib.hid (fun W (hW : Ext wb W) => hu.ext (hE0.trans hW))
  cases hs : seqB l xs
  · have Hs := Lib.hid (zsB_no hs)
    have cS := fun W (hW : Ext wb W) => sIsSequence_val v u l xs W (hg _ hW) (HU.out _ hW) hs
    go_enter Try.func71, Try.ntmps71
    go_wp2_with fail
    rw [← Hwb.out]
    refine (cS _ hE).mono ?_
    rintro e w1 ⟨rfl, hE1⟩
    go_wp2_with fail
    go_ret
    exact ⟨ret_bool Hs.out.symm, hE0.trans hE1⟩
  · have cS := fun W (hW : Ext wb W) => sIsSequence_val v u l xs W (hg _ hW) (HU.out _ hW) hs
    obtain ⟨X, rfl, -, -, hgr, hX⟩ := seqB_nat hs
    have Hs := Lib.hid (zsB_yes hs)
    have cT := fun W (hW : Ext wb W) => l16Sum_any v u l X W (hg _ hW) (HU.out _ hW) (Lib.hid hgr) (Lib.hid hX)
    clear hX hgr
    go_enter Try.func71, Try.ntmps71
    go_wp2_with fail
    rw [← Hwb.out]
    refine (cS _ hE).mono ?_
    rintro e w1 ⟨rfl, hE1⟩
    have hb1 := hb w1 hE1
    go_wp2_with fail
    refine (cT _ hE1).mono ?_
    rintro e w2 ⟨rfl, hE2⟩
    go_wp2_with fail
    go_ret
    exact ⟨ret_bool Hs.out.symm, hE0.trans (hE1.trans hE2)⟩
theorem IsZeroFree_any (v u : Value) (l xs : List Int) (w : World) (h : Ints w v l) (hu : Ints w u xs) :
    Calls Try.prog 87 #[.agg #[v], u] w fun e w' => e = .returned (.bool (zfB l xs)) ∧ Ext w w' := by
  obtain ⟨wb, hwb⟩ : ∃ wb, wb = w.alloc (.cells #[v] 30) := ⟨_, rfl⟩
  have hE0 := (Ext.refl w).alloc (.cells #[v] 30)
  have hb := box_cell w v 30
  rw [← hwb] at hE0 hb
  have hg : ∀ W, Ext wb W → Ints W v l := fun W hW => h.ext (hE0.trans hW)
  have hE := Ext.refl wb
  have Hsz : Hid (w.heap.size + 1 = wb.heap.size) := Lib.hid (by rw [hwb]; simp [go_sem])
  have Hwb := Lib.hid hwb
  clear hwb h
  have hbx := hb wb hE
  have HU := Lib.hid (fun W (hW : Ext wb W) => hu.ext (hE0.trans hW))
  cases hs : seqB l xs
  · have Hs := Lib.hid (zfB_no hs)
    have cS := fun W (hW : Ext wb W) => IsSequence_val v u l xs W (hg _ hW) (HU.out _ hW) hs
    go_enter Try.func87, Try.ntmps87
    go_wp2_with fail
    rw [← Hwb.out]
    refine (cS _ hE).mono ?_
    rintro e w1 ⟨rfl, hE1⟩
    go_wp2_with fail
    go_ret
    exact ⟨ret_bool Hs.out.symm, hE0.trans hE1⟩
  · have cS := fun W (hW : Ext wb W) => IsSequence_val v u l xs W (hg _ hW) (HU.out _ hW) hs
    obtain ⟨X, rfl, -, -, hgr, hX⟩ := seqB_nat hs
    have Hs := Lib.hid (zfB_yes hs)
    have cT := fun W (hW : Ext wb W) => subsums_any v u l X W (hg _ hW) (HU.out _ hW) (Lib.hid hgr) (Lib.hid hX)
    have hb24 := sbs_bd hgr X hX
    obtain ⟨S, hS⟩ : ∃ S, S = sbs l X := ⟨_, rfl⟩
    rw [← hS] at hb24 cT Hs
    clear hX hgr hS
    go_enter Try.func87, Try.ntmps87
    go_wp2_with fail
    rw [← Hwb.out]
    refine (cS _ hE).mono ?_
    rintro e w1 ⟨rfl, hE1⟩
    have hb1 := hb w1 hE1
    go_wp2_with fail
    refine (cT _ hE1).mono ?_
    rintro e w2 ⟨rfl, hE2⟩
    go_wp2_with (go_at_call 112; refine (in_any S 0 hb24 (by omega) _).mono ?_; rintro e w' ⟨rfl, rfl⟩)
    go_ret
    exact ⟨ret_bool (by rw [Hs.out]; first | exact bit0 S | rw [Nat.testBit_zero]), hE0.trans (hE1.trans hE2)⟩
theorem sIsZeroFree_any (v u : Value) (l xs : List Int) (w : World) (h : Ints w v l) (hu : Ints w u xs) :
    Calls Try.prog 72 #[.agg #[v], u] w fun e w' => e = .returned (.bool (zfB l xs)) ∧ Ext w w' := by
  obtain ⟨wb, hwb⟩ : ∃ wb, wb = w.alloc (.cells #[v] 30) := ⟨_, rfl⟩
  have hE0 := (Ext.refl w).alloc (.cells #[v] 30)
  have hb := box_cell w v 30
  rw [← hwb] at hE0 hb
  have hg : ∀ W, Ext wb W → Ints W v l := fun W hW => h.ext (hE0.trans hW)
  have hE := Ext.refl wb
  have Hsz : Hid (w.heap.size + 1 = wb.heap.size) := Lib.hid (by rw [hwb]; simp [go_sem])
  have Hwb := Lib.hid hwb
  clear hwb h
  have hbx := hb wb hE
  have HU := Lib.hid (fun W (hW : Ext wb W) => hu.ext (hE0.trans hW))
  cases hs : seqB l xs
  · have Hs := Lib.hid (zfB_no hs)
    have cS := fun W (hW : Ext wb W) => sIsSequence_val v u l xs W (hg _ hW) (HU.out _ hW) hs
    go_enter Try.func72, Try.ntmps72
    go_wp2_with fail
    rw [← Hwb.out]
    refine (cS _ hE).mono ?_
    rintro e w1 ⟨rfl, hE1⟩
    go_wp2_with fail
    go_ret
    exact ⟨ret_bool Hs.out.symm, hE0.trans hE1⟩
  · have cS := fun W (hW : Ext wb W) => sIsSequence_val v u l xs W (hg _ hW) (HU.out _ hW) hs
    obtain ⟨X, rfl, -, -, hgr, hX⟩ := seqB_nat hs
    have Hs := Lib.hid (zfB_yes hs)
    have cT := fun W (hW : Ext wb W) => l16Subsums_any v u l X W (hg _ hW) (HU.out _ hW) (Lib.hid hgr) (Lib.hid hX)
    have hb24 := sbs_bd hgr X hX
    obtain ⟨S, hS⟩ : ∃ S, S = sbs l X := ⟨_, rfl⟩
    rw [← hS] at hb24 cT Hs
    clear hX hgr hS
    go_enter Try.func72, Try.ntmps72
    go_wp2_with fail
    rw [← Hwb.out]
    refine (cS _ hE).mono ?_
    rintro e w1 ⟨rfl, hE1⟩
    have hb1 := hb w1 hE1
    go_wp2_with fail
    refine (cT _ hE1).mono ?_
    rintro e w2 ⟨rfl, hE2⟩
    have h1 := iand_one (a := S) (by omega); go_wp2_with fail
    go_ret
    exact ⟨ret_bool (by rw [Hs.out]; first | exact bit0 S | rw [Nat.testBit_zero]), hE0.trans (hE1.trans hE2)⟩
end Go.Zz

/- Plain facts on maps that keep sums. No program is named here. -/
namespace Go.Zz
set_option linter.unusedVariables false

def kEq (g h : List Int) (L M : List Nat) (i j p q : Nat) : Bool := !(((addF g (nthN L i) (nthN L j) : Nat) : Int) == ((addF g (nthN L p) (nthN L q) : Nat) : Int)) || !(((addF h (nthN M i) (nthN M j) : Nat) : Int) != ((addF h (nthN M p) (nthN M q) : Nat) : Int))
theorem kEq_symm (g h : List Int) (L M : List Nat) (i j p q : Nat) : kEq g h L M i j p q = kEq g h L M p q i j := by
  unfold kEq
  rw [show (((addF g (nthN L i) (nthN L j) : Nat) : Int) == ((addF g (nthN L p) (nthN L q) : Nat) : Int)) = (((addF g (nthN L p) (nthN L q) : Nat) : Int) == ((addF g (nthN L i) (nthN L j) : Nat) : Int)) by rw [Bool.eq_iff_iff, beq_iff_eq, beq_iff_eq]; exact eq_comm,
    show (((addF h (nthN M i) (nthN M j) : Nat) : Int) != ((addF h (nthN M p) (nthN M q) : Nat) : Int)) = (((addF h (nthN M p) (nthN M q) : Nat) : Int) != ((addF h (nthN M i) (nthN M j) : Nat) : Int)) by rw [Bool.eq_iff_iff, bne_iff_ne, bne_iff_ne]; exact ne_comm]
/-- equal sums go to equal sums -/
def kpB (g h : List Int) (L M : List Nat) : Bool := (List.range L.length).all fun i => (List.range L.length).all fun j => (List.range L.length).all fun p => (List.range L.length).all fun q => decide (j < i) || decide (q < p) || kEq g h L M i j p q
theorem kpB_iff {g h : List Int} {L M : List Nat} : kpB g h L M = true ↔ ∀ i j p q, i ≤ j → j < L.length → p ≤ q → q < L.length → kEq g h L M i j p q = true := by
  unfold kpB
  simp only [List.all_eq_true, List.mem_range]
  constructor
  · intro H i j p q h1 h2 h3 h4
    have := H i (by omega) j h2 p (by omega) q h4
    simpa [show ¬ j < i by omega, show ¬ q < p by omega] using this
  · intro H i h1 j h2 p h3 q h4
    by_cases hij : j < i
    · simp [hij]
    · by_cases hpq : q < p
      · simp [hpq]
      · rw [H i j p q (by omega) h2 (by omega) h4]; simp
theorem kpB_no {g h : List Int} {L M : List Nat} {i j p q : Nat} (h1 : i ≤ j) (h2 : j < L.length) (h3 : p ≤ q) (h4 : q < L.length) (e : kEq g h L M i j p q = false) : kpB g h L M = false := by
  rw [← Bool.not_eq_true, kpB_iff]; intro H; rw [H i j p q h1 h2 h3 h4] at e; cases e
/-- all pairs p, q -/
theorem kpB_all {g h : List Int} {L M : List Nat} (H : ∀ i, i < L.length → ∀ j p q, i ≤ j → j < L.length → p < L.length → p ≤ q → q < L.length → kEq g h L M i j p q = true) : kpB g h L M = true := by
  rw [kpB_iff]; intro i j p q h1 h2 h3 h4; exact H i (by omega) j p q h1 h2 (by omega) h3 h4
/-- the pairs with p not above i -/
theorem kpB_half {g h : List Int} {L M : List Nat} (H : ∀ i, i < L.length → ∀ j p q, i ≤ j → j < L.length → p < i + 1 → p ≤ q → q < L.length → kEq g h L M i j p q = true) : kpB g h L M = true := by
  rw [kpB_iff]; intro i j p q h1 h2 h3 h4
  by_cases hp : p < i + 1
  · exact H i (by omega) j p q h1 h2 hp h3 h4
  · rw [kEq_symm]; exact H p (by omega) q i j h3 h4 (by omega) h1 h2
/-- a part is kept where all is kept -/
theorem kpB_take {g h : List Int} {L M : List Nat} {n : Nat} (hn : n ≤ L.length) (H : kpB g h L M = true) : kpB g h (L.take n) (M.take n) = true := by
  rw [kpB_iff] at H ⊢
  intro i j p q h1 h2 h3 h4
  rw [List.length_take] at h2 h4
  have := H i j p q h1 (by omega) h3 (by omega)
  have e : ∀ (N : List Nat) k, k < n → nthN (N.take n) k = nthN N k := fun N k hk => by simp [nthN, List.getD, hk]
  unfold kEq at this ⊢
  rw [e L i (by omega), e L j (by omega), e L p (by omega), e L q (by omega), e M i (by omega), e M j (by omega), e M p (by omega), e M q (by omega)]
  exact this

/-! ### sets out of lists -/
theorem add_bit {a x : Nat} (h : a.testBit x = false) : a + 2 ^ x = a ||| 2 ^ x := by
  have h1 : a &&& 2 ^ x = 0 := Nat.eq_of_testBit_eq fun i => by
    rw [Nat.testBit_and, Nat.testBit_two_pow, Nat.zero_testBit]
    by_cases e : x = i
    · subst e; rw [h]; rfl
    · simp [e]
  have e1 : a < 2 ^ (max a (2 ^ x) + 1) := Nat.lt_of_lt_of_le (Nat.lt_two_pow_self) (Nat.pow_le_pow_right (by omega) (by omega))
  have e2 : 2 ^ x < 2 ^ (max a (2 ^ x) + 1) := Nat.lt_of_lt_of_le (Nat.lt_two_pow_self) (Nat.pow_le_pow_right (by omega) (by omega))
  have h2 := andN_sub (max a (2 ^ x) + 1) (a ||| 2 ^ x) (2 ^ x) (Nat.or_lt_two_pow e1 e2)
  have h3 : andN (a ||| 2 ^ x) (2 ^ x) = a := Nat.eq_of_testBit_eq fun i => by
    rw [andN_bit, Nat.testBit_or, Nat.testBit_two_pow]
    by_cases e : x = i
    · subst e; simp [h]
    · simp [e]
  have h4 : (a ||| 2 ^ x) &&& 2 ^ x = 2 ^ x := Nat.eq_of_testBit_eq fun i => by
    rw [Nat.testBit_and, Nat.testBit_or, Nat.testBit_two_pow]
    by_cases e : x = i <;> simp [e]
  rw [h3, h4] at h2; exact h2
def soG (l : List Int) : List Int → Nat → Option Nat
  | [], a => some a
  | x :: r, a => if hasB l x && !a.testBit x.toNat then soG l r (a ||| 2 ^ x.toNat) else none
def soB (l X : List Int) : Bool := (soG l X 0).isSome && isGrp l
def soV (l X : List Int) : Int := match soG l X 0 with | some a => (a : Int) | none => 0
theorem soG_no {l X : List Int} (h : soG l X 0 = none) : soB l X = false ∧ soV l X = 0 := by unfold soB soV; rw [h]; exact ⟨rfl, rfl⟩
theorem soG_yes {l X : List Int} {a : Nat} (h : soG l X 0 = some a) : soB l X = isGrp l ∧ soV l X = (a : Int) := by unfold soB soV; rw [h]; exact ⟨by simp, rfl⟩
theorem soG_hno {l r : List Int} {x : Int} {a : Nat} (h : hasB l x = false) : soG l (x :: r) a = none := by unfold soG; rw [h]; rfl
theorem soG_bno {l r : List Int} {n a : Nat} (h : a.testBit n = true) : soG l ((n : Int) :: r) a = none := by unfold soG; simp [h]
theorem soG_go {l r : List Int} {n a : Nat} (h1 : hasB l n = true) (h : a.testBit n = false) : soG l ((n : Int) :: r) a = soG l r (a ||| 2 ^ n) := by
  conv => lhs; unfold soG
  simp [h, h1]
theorem soG_append (l : List Int) : ∀ (X Y : List Int) (a : Nat), soG l (X ++ Y) a = (soG l X a).bind (soG l Y)
  | [], _, _ => rfl
  | x :: X, Y, a => by
    rw [List.cons_append]; unfold soG
    split
    · exact soG_append l X Y _
    · rfl
theorem bset_app (M : List Nat) (y : Nat) : bset (M ++ [y]) = bset M ||| 2 ^ y := bset_snoc M y
theorem bset_mem {M : List Nat} {y : Nat} : (bset M).testBit y = decide (y ∈ M) := testBit_bset M y
theorem soG_take {l : List Int} (hg : isGrp l = true) {M : List Nat} (hn : M.Nodup) (hM : ∀ y ∈ M, y < ord l) : ∀ k, k ≤ M.length → soG l (castL (M.take k)) 0 = some (bset (M.take k))
  | 0, _ => rfl
  | k + 1, hk => by
    have hk' : k < M.length := by omega
    have ih := soG_take hg hn hM k (by omega)
    have hn2 : (M.take (k + 1)).Nodup := hn.sublist (List.take_sublist _ _)
    have hy : nthN M k < ord l := hM _ (nthN_mem hk')
    rw [take_nthN M k hk'] at hn2 ⊢
    have hn3 := List.nodup_append.1 hn2
    have hyn : nthN M k ∉ M.take k := fun e => hn3.2.2 _ e _ (by simp) rfl
    rw [show castL (M.take k ++ [nthN M k]) = castL (M.take k) ++ [((nthN M k : Nat) : Int)] by simp [castL], soG_append, ih]
    show soG l [((nthN M k : Nat) : Int)] (bset (M.take k)) = _
    rw [soG_go (hasB_of hg hy) (by rw [bset_mem]; simpa using hyn), bset_app]; rfl
theorem soG_list {l : List Int} (hg : isGrp l = true) (M : List Nat) (hn : M.Nodup) (hM : ∀ y ∈ M, y < ord l) : soG l (castL M) 0 = some (bset M) := by
  have := soG_take hg hn hM M.length (Nat.le_refl _)
  rwa [List.take_length] at this
theorem soB_list {l : List Int} (hg : isGrp l = true) {M : List Nat} (hn : M.Nodup) (hM : ∀ y ∈ M, y < ord l) : soB l (castL M) = true := by
  unfold soB; rw [soG_list hg M hn hM, hg]; rfl
theorem soB_snoc {l : List Int} (hg : isGrp l = true) {M : List Nat} {y : Nat} (hn : M.Nodup) (hM : ∀ z ∈ M, z < ord l) (hy : y < ord l) : soB l (castL (M ++ [y])) = !(bset M).testBit y := by
  unfold soB
  rw [show castL (M ++ [y]) = castL M ++ [(y : Int)] by simp [castL], soG_append, soG_list hg M hn hM, hg]
  show ((soG l [(y : Int)] (bset M)).isSome && true) = _
  cases hb : (bset M).testBit y
  · rw [soG_go (hasB_of hg hy) hb]; rfl
  · rw [soG_bno hb]; rfl

/-! ### maps that keep sums, of lists of any numbers -/
def fineF (g h X Y : List Int) : Bool := Y.all (hasB h) && (soB g X && isGrp h && decide (X.length = Y.length) && decide (1 ≤ X.length ∧ X.length ≤ 6))
def natL (X : List Int) : List Nat := X.map Int.toNat
def fmF (g h X Y : List Int) : Bool := fineF g h X Y && kpB g h (natL X) (natL Y)
def isoF (g h X Y : List Int) : Bool := fmF g h X Y && fmF h g Y X
theorem natL_cast (L : List Nat) : natL (castL L) = L := by
  unfold natL castL; rw [List.map_map]
  have : (Int.toNat ∘ fun n : Nat => (n : Int)) = id := by funext n; rfl
  rw [this, List.map_id]
theorem fine_list {g h : List Int} (hg : isGrp g = true) (hh : isGrp h = true) {L M : List Nat} (hL : L.Nodup) (hLo : ∀ y ∈ L, y < ord g) (hMo : ∀ y ∈ M, y < ord h) (hlm : L.length = M.length) (h1 : 1 ≤ L.length) (h6 : L.length ≤ 6) : fineF g h (castL L) (castL M) = true := by
  unfold fineF
  rw [soB_list hg hL hLo, hh, castL_len, castL_len]
  have : (castL M).all (hasB h) = true := List.all_eq_true.2 fun x hx => by
    unfold castL at hx; obtain ⟨y, hy, rfl⟩ := List.mem_map.1 hx; exact hasB_of hh (hMo y hy)
  rw [this]; simp; omega
theorem iso_list {g h : List Int} (hg : isGrp g = true) (hh : isGrp h = true) {L M : List Nat} (hL : L.Nodup) (hM : M.Nodup) (hLo : ∀ y ∈ L, y < ord g) (hMo : ∀ y ∈ M, y < ord h) (hlm : L.length = M.length) (h1 : 1 ≤ L.length) (h6 : L.length ≤ 6) : isoF g h (castL L) (castL M) = (kpB g h L M && kpB h g M L) := by
  unfold isoF fmF
  rw [fine_list hg hh hL hLo hMo hlm h1 h6, fine_list hh hg hM hMo hLo hlm.symm (by omega) (by omega), natL_cast, natL_cast]; simp

/-! ### the search for an isomorphism -/
def isoK (g h : List Int) (L M : List Nat) : Bool := kpB g h L M && kpB h g M L
def fiI (g h : List Int) (L E : List Nat) : Nat → List Nat → Option (List Nat)
  | 0, _ => none
  | f + 1, M => if M.length = L.length then (if isoK g h L M then some M else none) else E.findSome? (fun y => if (bset M).testBit y then none else fiI g h L E f (M ++ [y]))
def fiS (g h : List Int) (L E : List Nat) : Nat → List Nat → Option (List Nat)
  | 0, _ => none
  | f + 1, M => if M.length = L.length then (if isoK g h L M then some M else none) else E.findSome? (fun y => if (bset M).testBit y || !kpB g h (L.take (M.length + 1)) (M ++ [y]) then none else fiS g h L E f (M ++ [y]))
theorem findSome_at {E : List Nat} {F : Nat → Option (List Nat)} {k : Nat} {r : List Nat} (hk : k < E.length) (h : ∀ k', k' < k → F (nthN E k') = none) (hr : F (nthN E k) = some r) : E.findSome? F = some r := by
  induction E generalizing k with
  | nil => simp at hk
  | cons y E ih =>
    cases k with
    | zero =>
      have : F y = some r := hr
      simp [List.findSome?, this]
    | succ k =>
      have h0 : F y = none := h 0 (by omega)
      simp only [List.findSome?, h0]
      exact ih (k := k) (by simpa using hk) (fun k' hk' => h (k' + 1) (by omega)) hr
theorem findSome_none {E : List Nat} {F : Nat → Option (List Nat)} (h : ∀ k', k' < E.length → F (nthN E k') = none) : E.findSome? F = none := by
  rw [List.findSome?_eq_none_iff]
  intro y hy
  obtain ⟨k, hk, rfl⟩ := List.getElem_of_mem hy
  have := h k hk
  simpa [nthN, List.getD, hk] using this
theorem findSome_get {E : List Nat} {F : Nat → Option (List Nat)} {r : List Nat} (h : E.findSome? F = some r) : ∃ y ∈ E, F y = some r := by
  obtain ⟨l1, y, l2, rfl, hy, -⟩ := List.findSome?_eq_some_iff.1 h
  exact ⟨y, by simp, hy⟩
theorem fiI_ext (g h : List Int) (L E : List Nat) : ∀ f M N, fiI g h L E f M = some N → (∃ R, N = M ++ R) ∧ N.length = L.length ∧ isoK g h L N = true := by
  intro f
  induction f with
  | zero => intro M N e; cases e
  | succ f ih =>
    intro M N e
    unfold fiI at e
    split at e
    · next hl =>
      split at e
      · next hk => cases e; exact ⟨⟨[], by simp⟩, hl, hk⟩
      · cases e
    · obtain ⟨y, -, hy⟩ := findSome_get e
      split at hy
      · cases hy
      · obtain ⟨⟨R, hR⟩, h2, h3⟩ := ih _ _ hy
        exact ⟨⟨y :: R, by rw [hR]; simp⟩, h2, h3⟩
theorem fiS_eq (g h : List Int) (L E : List Nat) : ∀ f M, M.length ≤ L.length → fiS g h L E f M = fiI g h L E f M := by
  intro f
  induction f with
  | zero => intro M _; rfl
  | succ f ih =>
    intro M hM
    unfold fiS fiI
    by_cases hl : M.length = L.length
    · rw [if_pos hl, if_pos hl]
    · rw [if_neg hl, if_neg hl]
      congr 1
      funext y
      by_cases hb : (bset M).testBit y = true
      · simp [hb]
      · have hb' : (bset M).testBit y = false := by simpa using hb
        rw [hb']
        by_cases hk : kpB g h (L.take (M.length + 1)) (M ++ [y]) = true
        · rw [hk]; simp; exact ih _ (by simp; omega)
        · have hk' : kpB g h (L.take (M.length + 1)) (M ++ [y]) = false := by simpa using hk
          rw [hk']
          simp
          cases hf : fiI g h L E f (M ++ [y]) with
          | none => rfl
          | some N =>
            exfalso
            obtain ⟨⟨R, hR⟩, h2, h3⟩ := fiI_ext g h L E _ _ _ hf
            unfold isoK at h3
            rw [Bool.and_eq_true] at h3
            have := kpB_take (n := M.length + 1) (by omega) h3.1
            rw [hR, show (M ++ [y] ++ R).take (M.length + 1) = M ++ [y] by
              rw [show M.length + 1 = (M ++ [y]).length by simp]; exact List.take_left] at this
            exact hk this
def ffC (g h : List Int) (a b : Int) : Bool := isSetB g a && isSetB h b && (decide (cnt a.toNat = cnt b.toNat) && decide (1 ≤ cnt a.toNat ∧ cnt a.toNat ≤ 5))
def ffR (g h : List Int) (a b : Int) : Option (List Nat) := if ffC g h a b then fiI g h (elems a.toNat) (elems b.toNat) (cnt a.toNat + 1) [] else none
def ffL (g h : List Int) (a b : Int) : List Nat := (ffR g h a b).getD []
def ffB (g h : List Int) (a b : Int) : Bool := (ffR g h a b).isSome
theorem ff_no {g h : List Int} {a b : Int} (e : ffR g h a b = none) : ffL g h a b = [] ∧ ffB g h a b = false := by unfold ffL ffB; rw [e]; exact ⟨rfl, rfl⟩
theorem ff_yes {g h : List Int} {a b : Int} {N : List Nat} (e : ffR g h a b = some N) : ffL g h a b = N ∧ ffB g h a b = true := by unfold ffL ffB; rw [e]; exact ⟨rfl, rfl⟩
end Go.Zz

/- Whether a map keeps sums: of the program and of the reference. -/
namespace Go.Zz
open Go.RowKit Go.Proofs
set_option maxHeartbeats 4000000
set_option maxRecDepth 8000

theorem keeps_any (v u : Value) (g h : List Int) (vL vM : Value) (L M : List Nat) (w : World) (hv : Ints w v g) (hu : Ints w u h) (Hg : Hid (isGrp g = true)) (Hh : Hid (isGrp h = true)) (hL : Ints w vL (castL L)) (hM : Ints w vM (castL M)) (hL24 : ∀ y ∈ L, y < 24) (hM24 : ∀ y ∈ M, y < 24) (hlm : L.length ≤ M.length) (hl : L.length ≤ 24) :
    Calls Try.prog 111 #[.agg #[v], .agg #[u], vL, vM] w fun e w' => e = .returned (.bool (kpB g h L M)) ∧ Ext w w' := by
  obtain ⟨wb, hwb⟩ : ∃ wb, wb = (w.alloc (.cells #[v] 30)).alloc (.cells #[u] 30) := ⟨_, rfl⟩
  have hE0 : Ext w wb := by rw [hwb]; exact ((Ext.refl _).alloc _).alloc _
  have B0 : Blk wb w.heap.size 30 #[v] := by rw [hwb]; exact (Blk.new _ _ _).alloc _
  have B1 : Blk wb (w.heap.size + 1) 30 #[u] := by rw [hwb]; simpa using Blk.new (w.alloc (.cells #[v] 30)) 30 #[u]
  have b0 : ∀ W, Ext wb W → W.cell? ⟨w.heap.size, 0, none⟩ = some v := fun W hW => (B0.ext hW).cell (i := 0) rfl
  have b1 : ∀ W, Ext wb W → W.cell? ⟨w.heap.size + 1, 0, none⟩ = some u := fun W hW => (B1.ext hW).cell (i := 0) rfl
  have HV := Lib.hid (fun W (hW : Ext wb W) => hv.ext (hE0.trans hW))
  have HU := Lib.hid (fun W (hW : Ext wb W) => hu.ext (hE0.trans hW))
  obtain ⟨aoL, cL, adrL, rfl, hadrL, hcellL⟩ := hL.nats
  have hixL := ints_index (c := cL) elI szI hadrL
  obtain ⟨aoM, cM, adrM, rfl, hadrM, hcellM⟩ := hM.nats
  have hixM := ints_index (c := cM) elI szI hadrM
  have hE := Ext.refl wb
  have Hwb := Lib.hid hwb
  clear hadrL hadrM hL hM hv hu hwb B0 B1
  have ob := ord_bd Hg.out
  go_enter Try.func111, Try.ntmps111
  go_wp2_with fail
  rw [← Hwb.out]
  go_loopw [15] (fun iv wr => ∃ i : Nat, i ≤ L.length ∧ iv = .int .i64 i ∧ Ext wb wr ∧ Hid (∀ i', i' < i → ∀ j p q, i' ≤ j → j < L.length → p < L.length → p ≤ q → q < L.length → kEq g h L M i' j p q = true)) (fun iv _ => L.length - (intOf iv).toNat)
  case atStart => exact ⟨0, by omega, rfl, hE, Lib.hid (by omega)⟩
  case round =>
    clear hE
    obtain ⟨i, hi, rfl, hE, H1⟩ := hrel
    by_cases hit : i < L.length
    · go_wp2_with fail
      go_loopw [10] (fun jv wq => ∃ j : Nat, i ≤ j ∧ j ≤ L.length ∧ jv = .int .i64 j ∧ Ext wb wq ∧ Hid (∀ j', i ≤ j' → j' < j → ∀ p q, p < L.length → p ≤ q → q < L.length → kEq g h L M i j' p q = true)) (fun jv _ => L.length - (intOf jv).toNat)
      case atStart => exact ⟨i, by omega, by omega, rfl, hE, Lib.hid (by omega)⟩
      case round =>
        clear hE
        obtain ⟨j, hij, hj, rfl, hE, H2⟩ := hrel
        by_cases hjt : j < L.length
        · go_wp2_with fail
          go_loopw [27] (fun pv wq => ∃ p : Nat, p ≤ L.length ∧ pv = .int .i64 p ∧ Ext wb wq ∧ Hid (∀ p', p' < p → ∀ q, p' ≤ q → q < L.length → kEq g h L M i j p' q = true)) (fun pv _ => L.length - (intOf pv).toNat)
          case atStart => exact ⟨0, by omega, rfl, hE, Lib.hid (by omega)⟩
          case round =>
            clear hE
            obtain ⟨p, hp, rfl, hE, H3⟩ := hrel
            by_cases hpt : p < L.length
            · go_wp2_with fail
              go_loopw [12] (fun qv wq => ∃ q : Nat, p ≤ q ∧ q ≤ L.length ∧ qv = .int .i64 q ∧ Ext wb wq ∧ Hid (∀ q', p ≤ q' → q' < q → kEq g h L M i j p q' = true)) (fun qv _ => L.length - (intOf qv).toNat)
              case atStart => exact ⟨p, by omega, by omega, rfl, hE, Lib.hid (by omega)⟩
              case round =>
                clear hE
                obtain ⟨q, hpq, hq, rfl, hE, H4⟩ := hrel
                by_cases hqt : q < L.length
                · have hpl : p < L.length := by omega
                  have him : i < M.length := by omega
                  have hjm : j < M.length := by omega
                  have hpm : p < M.length := by omega
                  have hqm : q < M.length := by omega
                  have cLi := fun U => hcellL i _ hit (hE0.trans (hE.trans (lat_ext wr U)))
                  have cLj := fun U => hcellL j _ hjt (hE0.trans (hE.trans (lat_ext wr U)))
                  have cLp := fun U => hcellL p _ hpl (hE0.trans (hE.trans (lat_ext wr U)))
                  have cLq := fun U => hcellL q _ hqt (hE0.trans (hE.trans (lat_ext wr U)))
                  have cMi := fun U => hcellM i _ him (hE0.trans (hE.trans (lat_ext wr U)))
                  have cMj := fun U => hcellM j _ hjm (hE0.trans (hE.trans (lat_ext wr U)))
                  have cMp := fun U => hcellM p _ hpm (hE0.trans (hE.trans (lat_ext wr U)))
                  have cMq := fun U => hcellM q _ hqm (hE0.trans (hE.trans (lat_ext wr U)))
                  have x0 := fun U => b0 _ (hE.trans (lat_ext wr U))
                  have x1 := fun U => b1 _ (hE.trans (lat_ext wr U))
                  have tLi := hL24 _ (nthN_mem hit)
                  have tLj := hL24 _ (nthN_mem hjt)
                  have tLp := hL24 _ (nthN_mem hpl)
                  have tLq := hL24 _ (nthN_mem hqt)
                  have tMi := hM24 _ (nthN_mem him)
                  have tMj := hM24 _ (nthN_mem hjm)
                  have tMp := hM24 _ (nthN_mem hpm)
                  have tMq := hM24 _ (nthN_mem hqm)
                  have a1 := fun U => add_any _ _ (nthN L i) (nthN L j) _ (HV.out _ (hE.trans (lat_ext wr U))) Hg (by omega) (by omega)
                  have a2 := fun U => add_any _ _ (nthN L p) (nthN L q) _ (HV.out _ (hE.trans (lat_ext wr U))) Hg (by omega) (by omega)
                  have a3 := fun U => add_any _ _ (nthN M i) (nthN M j) _ (HU.out _ (hE.trans (lat_ext wr U))) Hh (by omega) (by omega)
                  have a4 := fun U => add_any _ _ (nthN M p) (nthN M q) _ (HU.out _ (hE.trans (lat_ext wr U))) Hh (by omega) (by omega)
                  have hEb := hE
                  clear hE
                  have hE := Ext.refl wr
                  cases e1 : (((addF g (nthN L i) (nthN L j) : Nat) : Int) == ((addF g (nthN L p) (nthN L q) : Nat) : Int))
                  · have Hk : Hid (kEq g h L M i j p q = true) := Lib.hid (by unfold kEq; rw [e1]; rfl)
                    go_wp2_with fail
                    (refine wp_region_lat (wr) (by kernel_rfl) (by kernel_rfl) hE ?_); (repeat (go_big_quiet_step (first | (go_at_call 155; first | with_reducible exact Calls.lat (a1 _) | with_reducible exact Calls.lat (a2 _) | with_reducible exact Calls.lat (a3 _) | with_reducible exact Calls.lat (a4 _))))); (refine wpQuiet_nil ?_); (intro W hE'); (replace hE := lat_of hE'); (clear hE')
                    go_wp2_with fail
                    go_roundw
                    case rel => exact ⟨q + 1, by omega, by omega, by go_num, hEb.trans hE, Lib.hid fun q' h1 h2 => by by_cases e : q' = q; (subst e; exact Hk.out); exact H4.out q' h1 (by omega)⟩
                    case measure => (simp [intOf]; omega)
                  · cases e2 : (((addF h (nthN M i) (nthN M j) : Nat) : Int) != ((addF h (nthN M p) (nthN M q) : Nat) : Int))
                    · have Hk : Hid (kEq g h L M i j p q = true) := Lib.hid (by unfold kEq; rw [e1, e2]; rfl)
                      go_wp2_with fail
                      (refine wp_region_lat (wr) (by kernel_rfl) (by kernel_rfl) hE ?_); (repeat (go_big_quiet_step (first | (go_at_call 155; first | with_reducible exact Calls.lat (a1 _) | with_reducible exact Calls.lat (a2 _) | with_reducible exact Calls.lat (a3 _) | with_reducible exact Calls.lat (a4 _))))); (refine wpQuiet_nil ?_); (intro W hE'); (replace hE := lat_of hE'); (clear hE')
                      go_wp2_with fail
                      go_roundw
                      case rel => exact ⟨q + 1, by omega, by omega, by go_num, hEb.trans hE, Lib.hid fun q' h1 h2 => by by_cases e : q' = q; (subst e; exact Hk.out); exact H4.out q' h1 (by omega)⟩
                      case measure => (simp [intOf]; omega)
                    · have Hk : Hid (kpB g h L M = false) := Lib.hid (kpB_no hij hjt hpq hqt (by unfold kEq; rw [e1, e2]; rfl))
                      go_wp2_with fail
                      (refine wp_region_lat (wr) (by kernel_rfl) (by kernel_rfl) hE ?_); (repeat (go_big_quiet_step (first | (go_at_call 155; first | with_reducible exact Calls.lat (a1 _) | with_reducible exact Calls.lat (a2 _) | with_reducible exact Calls.lat (a3 _) | with_reducible exact Calls.lat (a4 _))))); (refine wpQuiet_nil ?_); (intro W hE'); (replace hE := lat_of hE'); (clear hE')
                      go_wp2_with fail
                      go_ret
                      exact ⟨ret_bool Hk.out.symm, hE0.trans (hEb.trans hE)⟩
                · have hql : q = L.length := by omega
                  subst hql
                  go_wp2_with fail
                  go_roundw
                  case rel => exact ⟨p + 1, by omega, by go_num, hE, Lib.hid fun p' h1 => by by_cases e : p' = p; (subst e; exact H4.out); exact H3.out p' (by omega)⟩
                  case measure => (simp [intOf]; omega)
            · have hpl : p = L.length := by omega
              go_wp2_with fail
              go_roundw
              case rel => exact ⟨j + 1, by omega, by omega, by go_num, hE, Lib.hid fun j' h1 h2 p' q' h3 => by by_cases e : j' = j; (subst e; exact H3.out p' (by omega) q'); exact H2.out j' h1 (by omega) p' q' h3⟩
              case measure => (simp [intOf]; omega)
        · have hjl : j = L.length := by omega
          go_wp2_with fail
          go_roundw
          case rel => exact ⟨i + 1, by omega, by go_num, hE, Lib.hid fun i' h1 j' p' q' h2 h3 => by by_cases e : i' = i; (subst e; exact H2.out j' h2 (by omega) p' q'); exact H1.out i' (by omega) j' p' q' h2 h3⟩
          case measure => (simp [intOf]; omega)
    · have hil : i = L.length := by omega
      have Hk : Hid (kpB g h L M = true) := Lib.hid (kpB_all fun i' h1 => H1.out i' (by omega))
      go_wp2_with fail
      go_ret
      exact ⟨ret_bool Hk.out.symm, hE0.trans hE⟩
theorem sKeeps_any (v u : Value) (g h : List Int) (vL vM : Value) (L M : List Nat) (w : World) (hv : Ints w v g) (hu : Ints w u h) (Hg : Hid (isGrp g = true)) (Hh : Hid (isGrp h = true)) (hL : Ints w vL (castL L)) (hM : Ints w vM (castL M)) (hL24 : ∀ y ∈ L, y < 24) (hM24 : ∀ y ∈ M, y < 24) (hlm : L.length ≤ M.length) (hl : L.length ≤ 24) :
    Calls Try.prog 154 #[.agg #[v], .agg #[u], vL, vM] w fun e w' => e = .returned (.bool (kpB g h L M)) ∧ Ext w w' := by
  obtain ⟨wb, hwb⟩ : ∃ wb, wb = (w.alloc (.cells #[v] 30)).alloc (.cells #[u] 30) := ⟨_, rfl⟩
  have hE0 : Ext w wb := by rw [hwb]; exact ((Ext.refl _).alloc _).alloc _
  have B0 : Blk wb w.heap.size 30 #[v] := by rw [hwb]; exact (Blk.new _ _ _).alloc _
  have B1 : Blk wb (w.heap.size + 1) 30 #[u] := by rw [hwb]; simpa using Blk.new (w.alloc (.cells #[v] 30)) 30 #[u]
  have b0 : ∀ W, Ext wb W → W.cell? ⟨w.heap.size, 0, none⟩ = some v := fun W hW => (B0.ext hW).cell (i := 0) rfl
  have b1 : ∀ W, Ext wb W → W.cell? ⟨w.heap.size + 1, 0, none⟩ = some u := fun W hW => (B1.ext hW).cell (i := 0) rfl
  have HV := Lib.hid (fun W (hW : Ext wb W) => hv.ext (hE0.trans hW))
  have HU := Lib.hid (fun W (hW : Ext wb W) => hu.ext (hE0.trans hW))
  obtain ⟨aoL, cL, adrL, rfl, hadrL, hcellL⟩ := hL.nats
  have hixL := ints_index (c := cL) elI szI hadrL
  obtain ⟨aoM, cM, adrM, rfl, hadrM, hcellM⟩ := hM.nats
  have hixM := ints_index (c := cM) elI szI hadrM
  have hE := Ext.refl wb
  have Hwb := Lib.hid hwb
  clear hadrL hadrM hL hM hv hu hwb B0 B1
  have ob := ord_bd Hg.out
  go_enter Try.func154, Try.ntmps154
  go_wp2_with fail
  rw [← Hwb.out]
  go_loopw [9] (fun iv wr => ∃ i : Nat, i ≤ L.length ∧ iv = .int .i64 i ∧ Ext wb wr ∧ Hid (∀ i', i' < i → ∀ j p q, i' ≤ j → j < L.length → p < (i' + 1) → p ≤ q → q < L.length → kEq g h L M i' j p q = true)) (fun iv _ => L.length - (intOf iv).toNat)
  case atStart => exact ⟨0, by omega, rfl, hE, Lib.hid (by omega)⟩
  case round =>
    clear hE
    obtain ⟨i, hi, rfl, hE, H1⟩ := hrel
    by_cases hit : i < L.length
    · go_wp2_with fail
      go_loopw [10] (fun jv wq => ∃ j : Nat, i ≤ j ∧ j ≤ L.length ∧ jv = .int .i64 j ∧ Ext wb wq ∧ Hid (∀ j', i ≤ j' → j' < j → ∀ p q, p < (i + 1) → p ≤ q → q < L.length → kEq g h L M i j' p q = true)) (fun jv _ => L.length - (intOf jv).toNat)
      case atStart => exact ⟨i, by omega, by omega, rfl, hE, Lib.hid (by omega)⟩
      case round =>
        clear hE
        obtain ⟨j, hij, hj, rfl, hE, H2⟩ := hrel
        by_cases hjt : j < L.length
        · go_wp2_with fail
          go_loopw [11] (fun pv wq => ∃ p : Nat, p ≤ (i + 1) ∧ pv = .int .i64 p ∧ Ext wb wq ∧ Hid (∀ p', p' < p → ∀ q, p' ≤ q → q < L.length → kEq g h L M i j p' q = true)) (fun pv _ => (i + 1) - (intOf pv).toNat)
          case atStart => exact ⟨0, by omega, rfl, hE, Lib.hid (by omega)⟩
          case round =>
            clear hE
            obtain ⟨p, hp, rfl, hE, H3⟩ := hrel
            by_cases hpt : p < (i + 1)
            · go_wp2_with fail
              go_loopw [12] (fun qv wq => ∃ q : Nat, p ≤ q ∧ q ≤ L.length ∧ qv = .int .i64 q ∧ Ext wb wq ∧ Hid (∀ q', p ≤ q' → q' < q → kEq g h L M i j p q' = true)) (fun qv _ => L.length - (intOf qv).toNat)
              case atStart => exact ⟨p, by omega, by omega, rfl, hE, Lib.hid (by omega)⟩
              case round =>
                clear hE
                obtain ⟨q, hpq, hq, rfl, hE, H4⟩ := hrel
                by_cases hqt : q < L.length
                · have hpl : p < L.length := by omega
                  have him : i < M.length := by omega
                  have hjm : j < M.length := by omega
                  have hpm : p < M.length := by omega
                  have hqm : q < M.length := by omega
                  have cLi := fun U => hcellL i _ hit (hE0.trans (hE.trans (lat_ext wr U)))
                  have cLj := fun U => hcellL j _ hjt (hE0.trans (hE.trans (lat_ext wr U)))
                  have cLp := fun U => hcellL p _ hpl (hE0.trans (hE.trans (lat_ext wr U)))
                  have cLq := fun U => hcellL q _ hqt (hE0.trans (hE.trans (lat_ext wr U)))
                  have cMi := fun U => hcellM i _ him (hE0.trans (hE.trans (lat_ext wr U)))
                  have cMj := fun U => hcellM j _ hjm (hE0.trans (hE.trans (lat_ext wr U)))
                  have cMp := fun U => hcellM p _ hpm (hE0.trans (hE.trans (lat_ext wr U)))
                  have cMq := fun U => hcellM q _ hqm (hE0.trans (hE.trans (lat_ext wr U)))
                  have x0 := fun U => b0 _ (hE.trans (lat_ext wr U))
                  have x1 := fun U => b1 _ (hE.trans (lat_ext wr U))
                  have tLi := hL24 _ (nthN_mem hit)
                  have tLj := hL24 _ (nthN_mem hjt)
                  have tLp := hL24 _ (nthN_mem hpl)
                  have tLq := hL24 _ (nthN_mem hqt)
                  have tMi := hM24 _ (nthN_mem him)
                  have tMj := hM24 _ (nthN_mem hjm)
                  have tMp := hM24 _ (nthN_mem hpm)
                  have tMq := hM24 _ (nthN_mem hqm)
                  have a1 := fun U => l2Add_any _ _ (nthN L i) (nthN L j) _ (HV.out _ (hE.trans (lat_ext wr U))) Hg (by omega) (by omega)
                  have a2 := fun U => l2Add_any _ _ (nthN L p) (nthN L q) _ (HV.out _ (hE.trans (lat_ext wr U))) Hg (by omega) (by omega)
                  have a3 := fun U => l2Add_any _ _ (nthN M i) (nthN M j) _ (HU.out _ (hE.trans (lat_ext wr U))) Hh (by omega) (by omega)
                  have a4 := fun U => l2Add_any _ _ (nthN M p) (nthN M q) _ (HU.out _ (hE.trans (lat_ext wr U))) Hh (by omega) (by omega)
                  have hEb := hE
                  clear hE
                  have hE := Ext.refl wr
                  cases e1 : (((addF g (nthN L i) (nthN L j) : Nat) : Int) == ((addF g (nthN L p) (nthN L q) : Nat) : Int))
                  · have Hk : Hid (kEq g h L M i j p q = true) := Lib.hid (by unfold kEq; rw [e1]; rfl)
                    go_wp2_with fail
                    (refine wp_region_lat (wr) (by kernel_rfl) (by kernel_rfl) hE ?_); (repeat (go_big_quiet_step (first | (go_at_call 161; first | with_reducible exact Calls.lat (a1 _) | with_reducible exact Calls.lat (a2 _) | with_reducible exact Calls.lat (a3 _) | with_reducible exact Calls.lat (a4 _))))); (refine wpQuiet_nil ?_); (intro W hE'); (replace hE := lat_of hE'); (clear hE')
                    go_wp2_with fail
                    go_roundw
                    case rel => exact ⟨q + 1, by omega, by omega, by go_num, hEb.trans hE, Lib.hid fun q' h1 h2 => by by_cases e : q' = q; (subst e; exact Hk.out); exact H4.out q' h1 (by omega)⟩
                    case measure => (simp [intOf]; omega)
                  · cases e2 : (((addF h (nthN M i) (nthN M j) : Nat) : Int) != ((addF h (nthN M p) (nthN M q) : Nat) : Int))
                    · have Hk : Hid (kEq g h L M i j p q = true) := Lib.hid (by unfold kEq; rw [e1, e2]; rfl)
                      go_wp2_with fail
                      (refine wp_region_lat (wr) (by kernel_rfl) (by kernel_rfl) hE ?_); (repeat (go_big_quiet_step (first | (go_at_call 161; first | with_reducible exact Calls.lat (a1 _) | with_reducible exact Calls.lat (a2 _) | with_reducible exact Calls.lat (a3 _) | with_reducible exact Calls.lat (a4 _))))); (refine wpQuiet_nil ?_); (intro W hE'); (replace hE := lat_of hE'); (clear hE')
                      go_wp2_with fail
                      go_roundw
                      case rel => exact ⟨q + 1, by omega, by omega, by go_num, hEb.trans hE, Lib.hid fun q' h1 h2 => by by_cases e : q' = q; (subst e; exact Hk.out); exact H4.out q' h1 (by omega)⟩
                      case measure => (simp [intOf]; omega)
                    · have Hk : Hid (kpB g h L M = false) := Lib.hid (kpB_no hij hjt hpq hqt (by unfold kEq; rw [e1, e2]; rfl))
                      go_wp2_with fail
                      (refine wp_region_lat (wr) (by kernel_rfl) (by kernel_rfl) hE ?_); (repeat (go_big_quiet_step (first | (go_at_call 161; first | with_reducible exact Calls.lat (a1 _) | with_reducible exact Calls.lat (a2 _) | with_reducible exact Calls.lat (a3 _) | with_reducible exact Calls.lat (a4 _))))); (refine wpQuiet_nil ?_); (intro W hE'); (replace hE := lat_of hE'); (clear hE')
                      go_wp2_with fail
                      go_ret
                      exact ⟨ret_bool Hk.out.symm, hE0.trans (hEb.trans hE)⟩
                · have hql : q = L.length := by omega
                  subst hql
                  go_wp2_with fail
                  go_roundw
                  case rel => exact ⟨p + 1, by omega, by go_num, hE, Lib.hid fun p' h1 => by by_cases e : p' = p; (subst e; exact H4.out); exact H3.out p' (by omega)⟩
                  case measure => (simp [intOf]; omega)
            · have hpl : p = (i + 1) := by omega
              go_wp2_with fail
              go_roundw
              case rel => exact ⟨j + 1, by omega, by omega, by go_num, hE, Lib.hid fun j' h1 h2 p' q' h3 => by by_cases e : j' = j; (subst e; exact H3.out p' (by omega) q'); exact H2.out j' h1 (by omega) p' q' h3⟩
              case measure => (simp [intOf]; omega)
        · have hjl : j = L.length := by omega
          go_wp2_with fail
          go_roundw
          case rel => exact ⟨i + 1, by omega, by go_num, hE, Lib.hid fun i' h1 j' p' q' h2 h3 => by by_cases e : i' = i; (subst e; exact H2.out j' h2 (by omega) p' q'); exact H1.out i' (by omega) j' p' q' h2 h3⟩
          case measure => (simp [intOf]; omega)
    · have hil : i = L.length := by omega
      have Hk : Hid (kpB g h L M = true) := Lib.hid (kpB_half fun i' h1 => H1.out i' (by omega))
      go_wp2_with fail
      go_ret
      exact ⟨ret_bool Hk.out.symm, hE0.trans hE⟩
end Go.Zz
