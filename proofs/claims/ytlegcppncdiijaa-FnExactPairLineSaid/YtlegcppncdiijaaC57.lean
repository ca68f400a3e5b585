/- FormatInt of the program. -/
import Derived.Test.YtlegcppncdiijaaC56
import Derived.BigRegion
namespace Go.Zz
open Go.RowKit Go.Proofs
set_option maxHeartbeats 1000000
set_option maxRecDepth 4000

theorem elB : Try.prog.underlying 42 = some (.slice (Try.prog.elem 42)) := by kernel_rfl
theorem szB : ∀ w, (Go.sizeOf (Try.prog.elem 42)).run Try.prog w = .ok 1 w := fun w => by kernel_rfl
def rd (m : Nat) : List Int := if m = 0 then [] else (48 + (m % 10 : Nat)) :: rd (m / 10)
theorem rd_zero : rd 0 = [] := by rw [rd, if_pos rfl]
theorem rd_pos {m : Nat} (h : ¬ m = 0) : rd m = (48 + ((m % 10 : Nat) : Int)) :: rd (m / 10) := by rw [rd, if_neg h]
theorem digs_rd (m : Nat) : ∀ s, digs m s = strOfNums (rd m).reverse ++ s := by
  induction m using Nat.strongRecOn with
  | ind m ih =>
    intro s
    by_cases h : m = 0
    · subst h; rw [digs_zero, rd_zero]; apply ByteArray.ext; simp [strOfNums]
    · rw [digs_pos s h, ih (m / 10) (by omega), rd_pos h]
      apply ByteArray.ext
      simp [strOfNums]
theorem OwnB.cellAt {w0 w : World} {g n c : Nat} {l : List Int} (h : OwnB w0 w (.slice (some ⟨g, 0, none⟩) n c) l) (hn : l.length = n) (i : Nat) (hi : i < n) :
    w.cell? ⟨g, i, none⟩ = some (.int .u8 (nth l i)) ∧ w.frozen? ⟨g, i, none⟩ = false := by
  subst hn
  have h1 := h.1
  exact ⟨by rw [World.ownsRow.cellAt h1 i (by omega)]; simp [nth, List.getD, hi], World.ownsRow.frozenAt h1 i⟩
theorem OwnB.stored_grown {w0 w : World} {g n c : Nat} {l : List Int} (h : OwnB w0 w (.slice (some ⟨g, 0, none⟩) n c) l) (hn : l.length = n) (j : Nat) (y : Int) :
    OwnB w0 (w.setCell ⟨g, j, none⟩ (.int .u8 y)) (.slice (some ⟨g, 0, none⟩) n c) (l.set j y) ∧ w.grownBy (w.setCell ⟨g, j, none⟩ (.int .u8 y)) (some g) := by
  subst hn
  exact ⟨h.stored j y, h.grown j y⟩
theorem OwnB.str {w0 w : World} {g n c : Nat} {l : List Int} (h : OwnB w0 w (.slice (some ⟨g, 0, none⟩) n c) l) (hn : l.length = n) :
    (convert 42 9 (.slice (some ⟨g, 0, none⟩) n c)).run Try.prog w = .ok (.string (strOfNums l)) w :=
  run_convert_bytes_arg (P := Try.prog) _ 42 5 (by rfl) (by rfl) g 0 n c l hn (fun i hi => by
    rw [Nat.zero_add]; exact (h.cellAt hn i hi).1) _ (by rfl)
theorem FormatInt_nat (n : Nat) (hn : n < 1000000000000) (hp : 0 < n) (w : World) :
    Calls Try.prog 106 #[.int .i64 n] w fun e w' => e = .returned (.string (fmtB n)) ∧ Ext w w' := by
  have h0 : ¬ (n : Int) = 0 := by omega
  have h1 : ¬ (n : Int) < 0 := by omega
  have hO0 := ownB_made (Ext.refl w)
  have hE0 := (Ext.refl w).alloc (.cells #[] 5)
  go_enter Try.func106, Try.ntmps106
  go_wp2_with fail
  go_loopw [3, 4] (fun v d wr => ∃ (m : Nat) (l : List Int), m < 1000000000000 ∧ d = .int .i64 m ∧ Ext w wr ∧ OwnB w wr v l ∧ l.length + m ≤ n ∧ l ++ rd m = rd n) (fun _ d _ => (intOf d).toNat)
  case atStart => exact ⟨n, [], hn, rfl, hE0, hO0, by simp, by simp⟩
  case round =>
    obtain ⟨m, l, hm, rfl, hE, hO, hsz, hl⟩ := hrel
    by_cases hz : m = 0
    · subst hz
      rw [rd_zero, List.append_nil] at hl
      have hl0 : 0 < l.length := by rw [hl, rd_pos (by omega)]; simp
      obtain ⟨g, c, rfl, hlc, hg0, hg1, hcell⟩ := hO.shape hl0
      obtain ⟨L, hL⟩ : ∃ L, L = l.length := ⟨_, rfl⟩
      rw [← hL] at hsz hl0 hlc
      have hLn : L ≤ n := by omega
      have Hl := Lib.hid hl
      have HL := Lib.hid hL
      have HO := Lib.hid hO
      clear hl hL hO hcell hsz
      rw [← HL.out]
      have hixB : ∀ (i : Nat) W, i < L → (Instr.indexAt 42 (.slice (some ⟨g, 0, none⟩) L c) (.int .i64 (i : Int))).run Try.prog W = .ok (.pointer (some ⟨g, i, none⟩)) W := by
        intro i W hi
        rw [run_indexAt_slice (h := elB), if_pos (by omega), szB]
        simp [Result.andThen, Addr.add_lit]
      go_wp2_with fail
      go_loopw [6, 7] (fun i j wr => ∃ (k jn : Nat), k ≤ jn + 1 ∧ jn + k + 1 = L ∧ i = .int .i64 k ∧ j = .int .i64 jn ∧ Ext w wr ∧ OwnB w wr (.slice (some ⟨g, 0, none⟩) L c) (revk l k)) (fun _ j _ => (intOf j).toNat)
      case atStart => exact ⟨0, L - 1, by omega, by omega, rfl, by go_num, hE, by rw [revk_zero, HL.out]; exact HO.out⟩
      case round =>
        obtain ⟨k, jn, hk, hkj, rfl, rfl, hE2, hO2⟩ := hrel
        have Hkj := Lib.hid hkj
        by_cases hlt : k < jn
        · have hkL : k < L := by omega
          have hjL : jn < L := by omega
          clear hkj
          have hl2 : (revk l k).length = L := by rw [revk_len, ← HL.out]
          obtain ⟨hck, hfk⟩ := hO2.cellAt hl2 k hkL
          obtain ⟨hcj, hfj⟩ := hO2.cellAt hl2 jn hjL
          have Hl2 := Lib.hid hl2
          have HO2 := Lib.hid hO2
          clear hl2 hO2
          have hne : ¬ k = jn := by omega
          have hne2 : ¬ jn = k := by omega
          go_wp2_with fail
          go_big_region
          go_wp2_with fail
          go_roundw
          case rel =>
            have hkj' := Hkj.out
            have hj2 : (revk l k).length - 1 - k = jn := by rw [Hl2.out]; omega
            obtain ⟨hO3, hG3⟩ := HO2.out.stored_grown Hl2.out k (nth (revk l k) jn)
            obtain ⟨hO4, hG4⟩ := hO3.stored_grown (by rw [List.length_set]; exact Hl2.out) jn (nth (revk l k) k)
            have hst := revk_step l k (by rw [← HL.out]; omega)
            rw [← HL.out, show L - 1 - k = jn by omega] at hst
            rw [hst] at hO4
            exact ⟨k + 1, jn - 1, by omega, by omega, by go_num, by go_num, ((hE2.grown hG3 (fun q hq => by cases hq; exact hg0)).grown hG4 (fun q hq => by cases hq; exact hg0)).drew, hO4⟩
          case measure => (simp [intOf]; omega)
        · clear hkj
          have hcv := hO2.str (by rw [revk_len, ← HL.out])
          have He : Hid (strOfNums (revk l k) = fmtB n) := Lib.hid (by
            have hk' := Hkj.out
            have hL' := HL.out
            rw [revk_end l k (by omega), Hl.out, fmtB_pos hp, digs_rd]; apply ByteArray.ext; simp)
          go_wp2_with fail
          go_ret
          exact ⟨ret_str He.out, hE2⟩
    · have h2 : ¬ (m : Int) = 0 := by omega
      obtain ⟨r, hr⟩ : ∃ r : Nat, (m : Int) % 10 = r := ⟨m % 10, by omega⟩
      have hr10 : r < 10 := by omega
      obtain ⟨q, hq⟩ : ∃ q : Nat, (m : Int) / 10 = q := ⟨m / 10, by omega⟩
      have Hr := Lib.hid (show r = m % 10 by omega)
      have Hq := Lib.hid (show q = m / 10 by omega)
      have Hl := Lib.hid hl
      have Hsz := Lib.hid hsz
      have hlb : l.length < 17592186044416 := by omega
      clear hl hsz
      go_wp2_with (at_builtin; refine wp_append1B rfl _ _ rfl w _ _ _ _ hO hE hlb rfl rfl ?_; intro v1 w1 hO1 hE1)
      go_roundw
      case rel =>
        have hq' := Hq.out
        have hr' := Hr.out
        have hs' := Hsz.out
        exact ⟨q, _, by omega, rfl, hE1, hO1, by (simp; omega), by rw [← Hl.out, rd_pos hz, ← hq', ← hr']; simp⟩
      case measure =>
        have hq' := Hq.out
        (simp [intOf]; omega)
theorem FormatInt_m1 (w : World) :
    Calls Try.prog 106 #[.int .i64 (-1)] w fun e w' => e = .returned (.string (fmtB (-1))) ∧ Ext w w' := by
  have hO0 := ownB_made (Ext.refl w)
  have hE0 := (Ext.refl w).alloc (.cells #[] 5)
  have Hf := Lib.hid fmtB_m1
  go_enter Try.func106, Try.ntmps106
  go_wp2_with fail
  go_loopw [3, 4] (fun v d wr => Ext w wr ∧ ((d = .int .i64 (-1) ∧ OwnB w wr v []) ∨ (d = .int .i64 0 ∧ OwnB w wr v [49]))) (fun _ d _ => (intOf d).natAbs)
  case atStart => exact ⟨hE0, Or.inl ⟨rfl, hO0⟩⟩
  case round =>
    obtain ⟨hE, ⟨rfl, hO⟩ | ⟨rfl, hO⟩⟩ := hrel
    · go_wp2_with (at_builtin; refine wp_append1B rfl _ _ rfl w _ _ _ _ hO hE (by simp) rfl rfl ?_; intro v1 w1 hO1 hE1)
      go_roundw
      case rel => exact ⟨hE1, Or.inr ⟨rfl, hO1⟩⟩
      case measure => (simp [intOf])
    · go_wp2_with (at_builtin; go_loud (refine wp_append1B rfl _ _ rfl w _ _ _ _ hO hE (by simp) rfl rfl ?_; intro v1 w1 hO1 hE1; obtain ⟨l, hl⟩ : ∃ l : List Int, l = [49] ++ [45] := ⟨_, rfl⟩; rw [← hl] at hO1; have hl0 : 0 < l.length := (by rw [hl]; simp); obtain ⟨g, c, hv, hlc, hg0, hg1, -⟩ := hO1.shape hl0; obtain ⟨L, hL⟩ : ∃ L, L = l.length := ⟨_, rfl⟩; have hL2 : L ≤ 2 := (by rw [hL, hl]; simp); rw [← hL] at hl0 hlc hv; subst hv; have HL := Lib.hid hL; have Hl := Lib.hid hl; have HO := Lib.hid hO1; clear hL hl hO1 hO))
      have hixB : ∀ (i : Nat) W, i < L → (Instr.indexAt 42 (.slice (some ⟨g, 0, none⟩) L c) (.int .i64 (i : Int))).run Try.prog W = .ok (.pointer (some ⟨g, i, none⟩)) W := by
        intro i W hi
        rw [run_indexAt_slice (h := elB), if_pos (by omega), szB]
        simp [Result.andThen, Addr.add_lit]
      go_wp2_with fail
      go_loopw [6, 7] (fun i j wr => ∃ (k jn : Nat), k ≤ jn + 1 ∧ jn + k + 1 = L ∧ i = .int .i64 k ∧ j = .int .i64 jn ∧ Ext w wr ∧ OwnB w wr (.slice (some ⟨g, 0, none⟩) L c) (revk l k)) (fun _ j _ => (intOf j).toNat)
      case atStart => exact ⟨0, L - 1, by omega, by omega, rfl, by go_num, hE1, by rw [revk_zero]; exact HO.out⟩
      case round =>
        obtain ⟨k, jn, hk, hkj, rfl, rfl, hE2, hO2⟩ := hrel
        have Hkj := Lib.hid hkj
        by_cases hlt : k < jn
        · have hkL : k < L := by omega
          have hjL : jn < L := by omega
          clear hkj
          have hl2 : (revk l k).length = L := by rw [revk_len, ← HL.out]
          obtain ⟨hck, hfk⟩ := hO2.cellAt hl2 k hkL
          obtain ⟨hcj, hfj⟩ := hO2.cellAt hl2 jn hjL
          have Hl2 := Lib.hid hl2
          have HO2 := Lib.hid hO2
          clear hl2 hO2
          have hne : ¬ k = jn := by omega
          have hne2 : ¬ jn = k := by omega
          go_wp2_with fail
          go_big_region
          go_wp2_with fail
          go_roundw
          case rel =>
            have hkj' := Hkj.out
            have hj2 : (revk l k).length - 1 - k = jn := by rw [Hl2.out]; omega
            obtain ⟨hO3, hG3⟩ := HO2.out.stored_grown Hl2.out k (nth (revk l k) jn)
            obtain ⟨hO4, hG4⟩ := hO3.stored_grown (by rw [List.length_set]; exact Hl2.out) jn (nth (revk l k) k)
            have hst := revk_step l k (by rw [← HL.out]; omega)
            rw [← HL.out, show L - 1 - k = jn by omega] at hst
            rw [hst] at hO4
            exact ⟨k + 1, jn - 1, by omega, by omega, by go_num, by go_num, ((hE2.grown hG3 (fun q hq => by cases hq; exact hg0)).grown hG4 (fun q hq => by cases hq; exact hg0)).drew, hO4⟩
          case measure => (simp [intOf]; omega)
        · clear hkj
          have hcv := hO2.str (by rw [revk_len, ← HL.out])
          have He : Hid (strOfNums (revk l k) = fmtB (-1)) := Lib.hid (by
            have hk' := Hkj.out
            have hL' := HL.out
            rw [revk_end l k (by omega), Hl.out, Hf.out]; rfl)
          go_wp2_with fail
          go_ret
          exact ⟨ret_str He.out, hE2⟩
theorem FormatInt_zero (w : World) :
    Calls Try.prog 106 #[.int .i64 0] w fun e w' => e = .returned (.string (fmtB 0)) ∧ Ext w w' := by
  have e : fmtB 0 = ⟨#[48]⟩ := by unfold fmtB; rw [if_pos rfl]
  have He := Lib.hid e
  clear e
  go_enter Try.func106, Try.ntmps106
  go_wp2_with fail
  go_ret
  exact ⟨ret_str He.out.symm, Ext.refl _⟩
theorem FormatInt_any (n : Int) (hn : -1 ≤ n ∧ n < 1000000000000) (w : World) :
    Calls Try.prog 106 #[.int .i64 n] w fun e w' => e = .returned (.string (fmtB n)) ∧ Ext w w' := by
  rcases (by omega : n = -1 ∨ n = 0 ∨ 0 < n) with rfl | rfl | h
  · exact FormatInt_m1 w
  · exact FormatInt_zero w
  · obtain ⟨m, rfl⟩ := Int.eq_ofNat_of_zero_le (show 0 ≤ n by omega)
    exact FormatInt_nat m (by omega) (by omega) w
end Go.Zz
