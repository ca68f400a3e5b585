/- SizeFormula. -/
import Derived.Test.YtgjomoedgmofbaaC6
namespace Go.Zz
open Go.RowKit Go.Proofs
set_option maxHeartbeats 400000

/-- one divisor's size -/
def szx (n m d : Int) : Int := ((n + d - 1) / d + (m + d - 1) / d - 1) * d
theorem szq {n d : Int} (hn : 1 ≤ n) (hn2 : n ≤ 1000) (hd : 1 ≤ d) (_ : d ≤ 1000) : 1 ≤ (n + d - 1) / d ∧ (n + d - 1) / d ≤ 1999 := by
  constructor
  · exact (Int.le_ediv_iff_mul_le (by omega)).2 (by omega)
  · exact Int.le_trans (Int.ediv_le_self _ (by omega)) (by omega)
theorem szx_bd {n m d : Int} (hn : 1 ≤ n) (hn2 : n ≤ 1000) (hm : 1 ≤ m) (hm2 : m ≤ 1000) (hd : 1 ≤ d) (hd2 : d ≤ 1000) : 1 ≤ szx n m d ∧ szx n m d ≤ 3997000 := by
  have h1 := szq hn hn2 hd hd2
  have h2 := szq hm hm2 hd hd2
  unfold szx
  constructor
  · have := Int.mul_le_mul (show (1:Int) ≤ (n + d - 1) / d + (m + d - 1) / d - 1 by omega) hd (by omega) (by omega); omega
  · have := Int.mul_le_mul (show (n + d - 1) / d + (m + d - 1) / d - 1 ≤ 3997 by omega) hd2 (by omega) (by omega); omega
theorem szx_self {o n m : Int} (hn : 1 ≤ n) (hn2 : n ≤ o) (hm : 1 ≤ m) (hm2 : m ≤ o) : szx n m o = o := by
  have e : ∀ x : Int, 1 ≤ x → x ≤ o → (x + o - 1) / o = 1 := fun x h1 h2 => by
    have h3 : 1 ≤ (x + o - 1) / o := (Int.le_ediv_iff_mul_le (by omega)).2 (by omega)
    have h4 : (x + o - 1) / o < 2 := (Int.ediv_lt_iff_lt_mul (by omega)).2 (by omega)
    omega
  unfold szx; rw [e n hn hn2, e m hm hm2]; omega
/-- the least one of the divisors up to k -/
def szTo (n m : Int) (L : List Int) (b : Int) : Int := L.foldl (fun b d => min b (szx n m d)) b
def szTi (n m : Int) (L : List Int) (b : Int) : Int := L.foldl (fun b d => if b < 0 ∨ szx n m d < b then szx n m d else b) b
theorem szTo_snoc (n m b d : Int) (L : List Int) : szTo n m (L ++ [d]) b = min (szTo n m L b) (szx n m d) := by simp [szTo]
theorem szTi_snoc (n m b d : Int) (L : List Int) : szTi n m (L ++ [d]) b = if szTi n m L b < 0 ∨ szx n m d < szTi n m L b then szx n m d else szTi n m L b := by unfold szTi; rw [List.foldl_append]; rfl
theorem szTo_start (n m : Int) : ∀ (L : List Int) (b c : Int), szTo n m L (min b c) = min b (szTo n m L c)
  | [], _, _ => rfl
  | d :: L, b, c => by
    have h := szTo_start n m L b (min c (szx n m d))
    simp only [szTo, List.foldl_cons] at *
    rw [show min (min b c) (szx n m d) = min b (min c (szx n m d)) by omega]
    exact h
theorem szTi_pos (n m : Int) : ∀ (L : List Int) (b : Int), 0 ≤ b → (∀ d ∈ L, 0 ≤ szx n m d) → szTi n m L b = szTo n m L b
  | [], _, _, _ => rfl
  | d :: L, b, hb, h => by
    have hd := h d (by simp)
    simp only [szTi, szTo, List.foldl_cons]
    have e : (if b < 0 ∨ szx n m d < b then szx n m d else b) = min b (szx n m d) := by split <;> omega
    rw [e]
    exact szTi_pos n m L _ (by omega) (fun x hx => h x (by simp [hx]))
theorem szTi_neg (n m : Int) (L : List Int) (hne : L ≠ []) (h : ∀ d ∈ L, 0 ≤ szx n m d) (B : Int) (hB : ∃ d ∈ L, szx n m d ≤ B) : szTi n m L (-1) = szTo n m L B := by
  have le_of_mem : ∀ (L : List Int) (b : Int) (d : Int), d ∈ L → szTo n m L b ≤ szx n m d := by
    intro L
    induction L with
    | nil => intro b d hd; simp at hd
    | cons x L ih =>
      intro b d hd
      have h1 := szTo_start n m L (szx n m x) b
      have e : szTo n m (x :: L) b = szTo n m L (min (szx n m x) b) := by simp only [szTo, List.foldl_cons]; congr 1; omega
      rw [e, h1]
      simp only [List.mem_cons] at hd
      rcases hd with rfl | hd
      · omega
      · have := ih b d hd; omega
  cases L with
  | nil => exact absurd rfl hne
  | cons x L =>
    have e1 : szTi n m (x :: L) (-1) = szTi n m L (szx n m x) := by simp [szTi]
    have hx := h x (by simp)
    rw [e1, szTi_pos n m L _ hx (fun d hd => h d (by simp [hd]))]
    have e2 : szTo n m (x :: L) B = szTo n m L (min B (szx n m x)) := by simp [szTo]
    rw [e2, szTo_start]
    obtain ⟨d, hd, hdB⟩ := hB
    have : szTo n m L (szx n m x) ≤ szx n m d := by
      simp only [List.mem_cons] at hd
      rcases hd with rfl | hd
      · have := szTo_start n m L (szx n m d) (szx n m d); rw [show min (szx n m d) (szx n m d) = szx n m d by omega] at this; omega
      · exact le_of_mem L _ d hd
    omega
def szF (o n m : Int) : Int := if (1 ≤ o ∧ o ≤ 1000) ∧ (1 ≤ n ∧ n ≤ o) ∧ (1 ≤ m ∧ m ≤ o) then szTo n m (divF o) o else -1
theorem divF_mem {o d : Int} (h : d ∈ divF o) : 1 ≤ d ∧ d ≤ o ∧ o ≤ 1000 := by
  unfold divF at h
  split at h
  · simp only [divTo, List.mem_map, List.mem_filter, List.mem_range] at h
    obtain ⟨k, ⟨hk, _⟩, rfl⟩ := h
    omega
  · simp at h
theorem divF_self {o : Int} (h1 : 1 ≤ o) (h2 : o ≤ 1000) : o ∈ divF o := by
  unfold divF
  rw [if_pos ⟨h1, h2⟩]
  simp only [divTo, List.mem_map, List.mem_filter, List.mem_range]
  refine ⟨o.toNat - 1, ⟨by omega, ?_⟩, by omega⟩
  rw [show o.toNat - 1 + 1 = o.toNat by omega]; simp
theorem szF_impl {o n m : Int} (ho : 1 ≤ o ∧ o ≤ 1000) (hn : 1 ≤ n ∧ n ≤ o) (hm : 1 ≤ m ∧ m ≤ o) : szF o n m = szTi n m (divF o) (-1) := by
  unfold szF
  rw [if_pos ⟨ho, hn, hm⟩]
  symm
  apply szTi_neg
  · intro e; have := divF_self ho.1 ho.2; rw [e] at this; simp at this
  · intro d hd; have := divF_mem hd; have := szx_bd (n := n) (m := m) (d := d) (by omega) (by omega) (by omega) (by omega) (by omega) (by omega); omega
  · exact ⟨o, divF_self ho.1 ho.2, by rw [szx_self hn.1 hn.2 hm.1 hm.2]; omega⟩
theorem szTo_bd (n m : Int) : ∀ (L : List Int) (b : Int), 1 ≤ b → b ≤ 1000 → (∀ d ∈ L, 1 ≤ szx n m d) → 1 ≤ szTo n m L b ∧ szTo n m L b ≤ 1000
  | [], b, h1, h2, _ => ⟨h1, h2⟩
  | d :: L, b, h1, h2, h => by
    have := h d (by simp)
    simp only [szTo, List.foldl_cons]
    exact szTo_bd n m L _ (by omega) (by omega) (fun x hx => h x (by simp [hx]))

--%call SizeFormula 18 ext SizeFormula_any _ _ _ _
theorem SizeFormula_any (o n m : Int) (w : World) :
    Calls Try.prog 18 #[.int .i64 o, .int .i64 n, .int .i64 m] w fun e w' => e = .returned (.int .i64 (szF o n m)) ∧ Ext w w' := by
  by_cases ho : 1 ≤ o ∧ o ≤ 1000
  · by_cases hn : 1 ≤ n ∧ n ≤ o
    · by_cases hm : 1 ≤ m ∧ m ≤ o
      · have i1 := inB_t.2 ho
        have i2 := inB_t.2 hn
        have i3 := inB_t.2 hm
        have He := Lib.hid (szF_impl ho hn hm)
        have hmem : ∀ k, k < (divF o).length → 1 ≤ nth (divF o) k ∧ nth (divF o) k ≤ 1000 := fun k hk => by have := divF_mem (nth_mem hk); omega
        go_enter Try.func18, Try.ntmps18
        go_wp2_with (first | (go_at_call 110; refine (within_any _ _ _ _).mono ?_; rintro e w' ⟨rfl, rfl⟩))
        refine (DivisorsOf_any _ _).mono ?_
        rintro e w1 ⟨v, rfl, hO, hE1⟩
        obtain ⟨ao, c, adr, rfl, hlen, hadr, hcell⟩ := hO.ints.op
        have hix := ints_index (c := c) elI szI hadr
        clear hadr hO
        have hE := Ext.refl w1
        go_wp2_with fail
        go_loopw [7, 29] (fun b i wr => ∃ k : Nat, k ≤ (divF o).length ∧ b = .int .i64 (szTi n m ((divF o).take k) (-1)) ∧ i = .int .i64 k ∧ Ext w1 wr) (fun _ i _ => (divF o).length - (intOf i).toNat)
        case atStart => exact ⟨0, by omega, rfl, rfl, hE⟩
        case round =>
          clear hE
          obtain ⟨k, hk, rfl, rfl, hE⟩ := hrel
          by_cases hlt : k < (divF o).length
          · have hck := hcell k _ hlt hE
            obtain ⟨hd1, hd2⟩ := hmem k hlt
            have hs := Lib.hid (szTi_snoc n m (-1) (nth (divF o) k) ((divF o).take k))
            have hb := szx_bd (n := n) (m := m) (d := nth (divF o) k) (by omega) (by omega) (by omega) (by omega) hd1 hd2
            have hq1 := szq (n := n) (d := nth (divF o) k) (by omega) (by omega) hd1 hd2
            have hq2 := szq (n := m) (d := nth (divF o) k) (by omega) (by omega) hd1 hd2
            have hx : ((n + nth (divF o) k - 1) / nth (divF o) k + (m + nth (divF o) k - 1) / nth (divF o) k - 1) * nth (divF o) k = szx n m (nth (divF o) k) := rfl
            generalize szTi n m ((divF o).take k) (-1) = b at *
            by_cases hb0 : b < 0
            · go_wp2_with fail
              (refine wp_region_lat (w1) (by kernel_rfl) (by kernel_rfl) hE ?_); (repeat (go_big_quiet_step (first | fail))); (refine wpQuiet_nil ?_); (intro W hE'); (replace hE := lat_of hE'); (clear hE')
              go_wp2_with fail
              go_roundw
              case rel => exact ⟨k + 1, by omega, by rw [take_nth _ k hlt, hs.out, if_pos (by omega)], by go_num, hE⟩
              case measure => (simp [intOf]; omega)
            · have hb0' : 0 ≤ b := by omega
              by_cases hlt2 : szx n m (nth (divF o) k) < b
              · go_wp2_with fail
                (refine wp_region_lat (w1) (by kernel_rfl) (by kernel_rfl) hE ?_); (repeat (go_big_quiet_step (first | fail))); (refine wpQuiet_nil ?_); (intro W hE'); (replace hE := lat_of hE'); (clear hE')
                go_wp2_with fail
                go_roundw
                case rel => exact ⟨k + 1, by omega, by rw [take_nth _ k hlt, hs.out, if_pos (by omega)], by go_num, hE⟩
                case measure => (simp [intOf]; omega)
              · go_wp2_with fail
                (refine wp_region_lat (w1) (by kernel_rfl) (by kernel_rfl) hE ?_); (repeat (go_big_quiet_step (first | fail))); (refine wpQuiet_nil ?_); (intro W hE'); (replace hE := lat_of hE'); (clear hE')
                go_wp2_with fail
                go_roundw
                case rel => exact ⟨k + 1, by omega, by rw [take_nth _ k hlt, hs.out, if_neg (by omega)], by go_num, hE⟩
                case measure => (simp [intOf]; omega)
          · have hkl : k = (divF o).length := by omega
            have hfin : szTi n m ((divF o).take k) (-1) = szTi n m (divF o) (-1) := by rw [hkl, List.take_length]
            have Hf := Lib.hid hfin
            clear hkl hfin
            go_wp2_with fail
            go_ret
            exact ⟨ret_int (by rw [He.out]; exact Hf.out), hE1.trans hE⟩
      · have i1 := inB_t.2 ho
        have i2 := inB_t.2 hn
        have i3 := inB_f.2 hm
        go_enter Try.func18, Try.ntmps18
        go_wp2_with (first | (go_at_call 110; refine (within_any _ _ _ _).mono ?_; rintro e w' ⟨rfl, rfl⟩))
        go_ret
        exact ⟨ret_int (by unfold szF; rw [if_neg (by omega)]), Ext.refl w⟩
    · have i1 := inB_t.2 ho
      have i2 := inB_f.2 hn
      go_enter Try.func18, Try.ntmps18
      go_wp2_with (first | (go_at_call 110; refine (within_any _ _ _ _).mono ?_; rintro e w' ⟨rfl, rfl⟩))
      go_ret
      exact ⟨ret_int (by unfold szF; rw [if_neg (by omega)]), Ext.refl w⟩
  · have i1 := inB_f.2 ho
    go_enter Try.func18, Try.ntmps18
    go_wp2_with (first | (go_at_call 110; refine (within_any _ _ _ _).mono ?_; rintro e w' ⟨rfl, rfl⟩))
    go_ret
    exact ⟨ret_int (by unfold szF; rw [if_neg (by omega)]), Ext.refl w⟩
--%call sSizeFormula 27 ext sSizeFormula_any _ _ _ _
theorem sSizeFormula_any (o n m : Int) (w : World) :
    Calls Try.prog 27 #[.int .i64 o, .int .i64 n, .int .i64 m] w fun e w' => e = .returned (.int .i64 (szF o n m)) ∧ Ext w w' := by
  by_cases ho : 1 ≤ o ∧ o ≤ 1000
  · by_cases hn : 1 ≤ n ∧ n ≤ o
    · by_cases hm : 1 ≤ m ∧ m ≤ o
      · have i1 := inB_t.2 ho
        have i2 := inB_t.2 hn
        have i3 := inB_t.2 hm
        have He := Lib.hid (show szF o n m = szTo n m (divF o) o by unfold szF; rw [if_pos ⟨ho, hn, hm⟩])
        have hmem : ∀ k, k < (divF o).length → 1 ≤ nth (divF o) k ∧ nth (divF o) k ≤ 1000 := fun k hk => by have := divF_mem (nth_mem hk); omega
        go_enter Try.func27, Try.ntmps27
        go_wp2_with (first | (go_at_call 116; refine (l1In_any _ _ _ _).mono ?_; rintro e w' ⟨rfl, rfl⟩))
        refine (sDivisorsOf_any _ _).mono ?_
        rintro e w1 ⟨v, rfl, hO, hE1⟩
        obtain ⟨ao, c, adr, rfl, hlen, hadr, hcell⟩ := hO.ints.op
        have hix := ints_index (c := c) elI szI hadr
        clear hadr hO
        have hE := Ext.refl w1
        go_wp2_with fail
        go_loopw [7, 9] (fun b i wr => ∃ k : Nat, k ≤ (divF o).length ∧ b = .int .i64 (szTo n m ((divF o).take k) o) ∧ i = .int .i64 k ∧ Ext w1 wr) (fun _ i _ => (divF o).length - (intOf i).toNat)
        case atStart => exact ⟨0, by omega, rfl, rfl, hE⟩
        case round =>
          clear hE
          obtain ⟨k, hk, rfl, rfl, hE⟩ := hrel
          by_cases hlt : k < (divF o).length
          · have hck := hcell k _ hlt hE
            obtain ⟨hd1, hd2⟩ := hmem k hlt
            have hs := Lib.hid (szTo_snoc n m o (nth (divF o) k) ((divF o).take k))
            have hb := szx_bd (n := n) (m := m) (d := nth (divF o) k) (by omega) (by omega) (by omega) (by omega) hd1 hd2
            have hq1 := szq (n := n) (d := nth (divF o) k) (by omega) (by omega) hd1 hd2
            have hq2 := szq (n := m) (d := nth (divF o) k) (by omega) (by omega) hd1 hd2
            have hx : ((n + nth (divF o) k - 1) / nth (divF o) k + (m + nth (divF o) k - 1) / nth (divF o) k - 1) * nth (divF o) k = szx n m (nth (divF o) k) := rfl
            have hbb := szTo_bd n m ((divF o).take k) o (by omega) (by omega) (fun d hd => by have := divF_mem (List.mem_of_mem_take hd); have := szx_bd (n := n) (m := m) (d := d) (by omega) (by omega) (by omega) (by omega) (by omega) (by omega); omega)
            generalize szTo n m ((divF o).take k) o = b at *
            go_wp2_with fail
            (refine wp_region_lat (w1) (by kernel_rfl) (by kernel_rfl) hE ?_); (repeat (go_big_quiet_step (first | fail))); (refine wpQuiet_nil ?_); (intro W hE'); (replace hE := lat_of hE'); (clear hE')
            go_wp2_with fail
            go_roundw
            case rel => exact ⟨k + 1, by omega, by rw [take_nth _ k hlt, hs.out]; (first | rfl | go_num), by go_num, hE⟩
            case measure => (simp [intOf]; omega)
          · have hkl : k = (divF o).length := by omega
            have hfin : szTo n m ((divF o).take k) o = szTo n m (divF o) o := by rw [hkl, List.take_length]
            have Hf := Lib.hid hfin
            clear hkl hfin
            go_wp2_with fail
            go_ret
            exact ⟨ret_int (by rw [He.out]; exact Hf.out), hE1.trans hE⟩
      · have i1 := inB_t.2 ho
        have i2 := inB_t.2 hn
        have i3 := inB_f.2 hm
        go_enter Try.func27, Try.ntmps27
        go_wp2_with (first | (go_at_call 116; refine (l1In_any _ _ _ _).mono ?_; rintro e w' ⟨rfl, rfl⟩))
        go_ret
        exact ⟨ret_int (by unfold szF; rw [if_neg (by omega)]), Ext.refl w⟩
    · have i1 := inB_t.2 ho
      have i2 := inB_f.2 hn
      go_enter Try.func27, Try.ntmps27
      go_wp2_with (first | (go_at_call 116; refine (l1In_any _ _ _ _).mono ?_; rintro e w' ⟨rfl, rfl⟩))
      go_ret
      exact ⟨ret_int (by unfold szF; rw [if_neg (by omega)]), Ext.refl w⟩
  · have i1 := inB_f.2 ho
    go_enter Try.func27, Try.ntmps27
    go_wp2_with (first | (go_at_call 116; refine (l1In_any _ _ _ _).mono ?_; rintro e w' ⟨rfl, rfl⟩))
    go_ret
    exact ⟨ret_int (by unfold szF; rw [if_neg (by omega)]), Ext.refl w⟩
end Go.Zz
