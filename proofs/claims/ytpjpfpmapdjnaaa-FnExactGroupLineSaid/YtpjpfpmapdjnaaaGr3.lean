/- FormatInt of the program. -/
import Derived.Test.YtpjpfpmapdjnaaaGr2
import Derived.BigRegion
namespace Go.Zz
open Go.RowKit Go.Proofs
set_option maxHeartbeats 1000000
set_option maxRecDepth 4000

theorem elB : Try.prog.underlying 46 = some (.slice (Try.prog.elem 46)) := by kernel_rfl
theorem szBt : ∀ w, (Go.sizeOf (Try.prog.elem 46)).run Try.prog w = .ok 1 w := fun w => by kernel_rfl
def rd (m : Nat) : List Int := if m = 0 then [] else (48 + (m % 10 : Nat)) :: rd (m / 10)
theorem rd_zero : rd 0 = [] := by rw [rd, if_pos rfl]
theorem rd_pos {m : Nat} (h : ¬ m = 0) : rd m = (48 + ((m % 10 : Nat) : Int)) :: rd (m / 10) := by rw [rd, if_neg h]
theorem digs_rd (m : Nat) : ∀ s, digs m s = strOfNums (rd m).reverse ++ s := by
  induction m using Nat.strongRecOn with
  | ind m ih =>
    intro s
    by_cases h : m = 0
    · subst h; rw [digs_zero, rd_zero]; apply ByteArray.ext; simp [strOfNums]
    · rw [digs_pos s h, ih (m / 10) (by omega), rd_pos h]
      apply ByteArray.ext
      simp [strOfNums]
theorem OwnB.cellAt {w0 w : World} {g n c : Nat} {l : List Int} (h : OwnB w0 w (.slice (some ⟨g, 0, none⟩) n c) l) (hn : l.length = n) (i : Nat) (hi : i < n) :
    w.cell? ⟨g, i, none⟩ = some (.int .u8 (nth l i)) ∧ w.frozen? ⟨g, i, none⟩ = false := by
  subst hn
  have h1 := h.1
  exact ⟨by rw [World.ownsRow.cellAt h1 i (by omega)]; simp [nth, List.getD, hi], World.ownsRow.frozenAt h1 i⟩
theorem OwnB.stored_grown {w0 w : World} {g n c : Nat} {l : List Int} (h : OwnB w0 w (.slice (some ⟨g, 0, none⟩) n c) l) (hn : l.length = n) (j : Nat) (y : Int) :
    OwnB w0 (w.setCell ⟨g, j, none⟩ (.int .u8 y)) (.slice (some ⟨g, 0, none⟩) n c) (l.set j y) ∧ w.grownBy (w.setCell ⟨g, j, none⟩ (.int .u8 y)) (some g) := by
  subst hn
  exact ⟨h.stored j y, h.grown j y⟩
theorem OwnB.str {w0 w : World} {g n c : Nat} {l : List Int} (h : OwnB w0 w (.slice (some ⟨g, 0, none⟩) n c) l) (hn : l.length = n) :
    (convert 46 9 (.slice (some ⟨g, 0, none⟩) n c)).run Try.prog w = .ok (.string (strOfNums l)) w :=
  run_convert_bytes_arg (P := Try.prog) _ 46 5 (by rfl) (by rfl) g 0 n c l hn (fun i hi => by
    rw [Nat.zero_add]; exact (h.cellAt hn i hi).1) _ (by rfl)
theorem FormatInt_nat (n : Nat) (hn : n < 1000000000000) (hp : 0 < n) (w : World) :
    Calls Try.prog 25 #[.int .i64 n] w fun e w' => e = .returned (.string (fmtB n)) ∧ Ext w w' := by
  have h0 : ¬ (n : Int) = 0 := by omega
  have h1 : ¬ (n : Int) < 0 := by omega
  have hO0 := ownB_made (Ext.refl w)
  have hE0 := (Ext.refl w).alloc (.cells #[] 5)
  go_enter Try.func25, Try.ntmps25
  go_wp2_with fail
  go_loopw [3, 4] (fun v d wr => ∃ (m : Nat) (l : List Int), m < 1000000000000 ∧ d = .int .i64 m ∧ Ext w wr ∧ OwnB w wr v l ∧ l.length + m ≤ n ∧ l ++ rd m = rd n) (fun _ d _ => (intOf d).toNat)
  case atStart => exact ⟨n, [], hn, rfl, hE0, hO0, by simp, by simp⟩
  case round =>
    obtain ⟨m, l, hm, rfl, hE, hO, hsz, hl⟩ := hrel
    by_cases hz : m = 0
    · subst hz
      rw [rd_zero, List.append_nil] at hl
      have hl0 : 0 < l.length := by rw [hl, rd_pos (by omega)]; simp
      obtain ⟨g, c, rfl, hlc, hg0, hg1, hcell⟩ := hO.shape hl0
      obtain ⟨L, hL⟩ : ∃ L, L = l.length := ⟨_, rfl⟩
      rw [← hL] at hsz hl0 hlc
      have hLn : L ≤ n := by omega
      have Hl := Lib.hid hl
      have HL := Lib.hid hL
      have HO := Lib.hid hO
      clear hl hL hO hcell hsz
      rw [← HL.out]
      have hixB : ∀ (i : Nat) W, i < L → (Instr.indexAt 46 (.slice (some ⟨g, 0, none⟩) L c) (.int .i64 (i : Int))).run Try.prog W = .ok (.pointer (some ⟨g, i, none⟩)) W := by
        intro i W hi
        rw [run_indexAt_slice (h := elB), if_pos (by omega), szBt]
        simp [Result.andThen, Addr.add_lit]
      go_wp2_with fail
      go_loopw [6, 7] (fun i j wr => ∃ (k jn : Nat), k ≤ jn + 1 ∧ jn + k + 1 = L ∧ i = .int .i64 k ∧ j = .int .i64 jn ∧ Ext w wr ∧ OwnB w wr (.slice (some ⟨g, 0, none⟩) L c) (revk l k)) (fun _ j _ => (intOf j).toNat)
      case atStart => exact ⟨0, L - 1, by omega, by omega, rfl, by go_num, hE, by rw [revk_zero, HL.out]; exact HO.out⟩
      case round =>
        obtain ⟨k, jn, hk, hkj, rfl, rfl, hE2, hO2⟩ := hrel
        have Hkj := Lib.hid hkj
        by_cases hlt : k < jn
        · have hkL : k < L := by omega
          have hjL : jn < L := by omega
          clear hkj
          have hl2 : (revk l k).length = L := by rw [revk_len, ← HL.out]
          obtain ⟨hck, hfk⟩ := hO2.cellAt hl2 k hkL
          obtain ⟨hcj, hfj⟩ := hO2.cellAt hl2 jn hjL
          have Hl2 := Lib.hid hl2
          have HO2 := Lib.hid hO2
          clear hl2 hO2
          have hne : ¬ k = jn := by omega
          have hne2 : ¬ jn = k := by omega
          go_wp2_with fail
          go_big_region
          go_wp2_with fail
          go_roundw
          case rel =>
            have hkj' := Hkj.out
            have hj2 : (revk l k).length - 1 - k = jn := by rw [Hl2.out]; omega
            obtain ⟨hO3, hG3⟩ := HO2.out.stored_grown Hl2.out k (nth (revk l k) jn)
            obtain ⟨hO4, hG4⟩ := hO3.stored_grown (by rw [List.length_set]; exact Hl2.out) jn (nth (revk l k) k)
            have hst := revk_step l k (by rw [← HL.out]; omega)
            rw [← HL.out, show L - 1 - k = jn by omega] at hst
            rw [hst] at hO4
            exact ⟨k + 1, jn - 1, by omega, by omega, by go_num, by go_num, ((hE2.grown hG3 (fun q hq => by cases hq; exact hg0)).grown hG4 (fun q hq => by cases hq; exact hg0)).drew, hO4⟩
          case measure => (simp [intOf]; omega)
        · clear hkj
          have hcv := hO2.str (by rw [revk_len, ← HL.out])
          have He : Hid (strOfNums (revk l k) = fmtB n) := Lib.hid (by
            have hk' := Hkj.out
            have hL' := HL.out
            rw [revk_end l k (by omega), Hl.out, fmtB_pos hp, digs_rd]; apply ByteArray.ext; simp)
          go_wp2_with fail
          go_ret
          exact ⟨ret_str He.out, hE2⟩
    · have h2 : ¬ (m : Int) = 0 := by omega
      obtain ⟨r, hr⟩ : ∃ r : Nat, (m : Int) % 10 = r := ⟨m % 10, by omega⟩
      have hr10 : r < 10 := by omega
      obtain ⟨q, hq⟩ : ∃ q : Nat, (m : Int) / 10 = q := ⟨m / 10, by omega⟩
      have Hr := Lib.hid (show r = m % 10 by omega)
      have Hq := Lib.hid (show q = m / 10 by omega)
      have Hl := Lib.hid hl
      have Hsz := Lib.hid hsz
      have hlb : l.length < 17592186044416 := by omega
      clear hl hsz
      go_wp2_with (at_builtin; refine wp_append1B rfl _ _ rfl w _ _ _ _ hO hE hlb rfl rfl ?_; intro v1 w1 hO1 hE1)
      go_roundw
      case rel =>
        have hq' := Hq.out
        have hr' := Hr.out
        have hs' := Hsz.out
        exact ⟨q, _, by omega, rfl, hE1, hO1, by (simp; omega), by rw [← Hl.out, rd_pos hz, ← hq', ← hr']; simp⟩
      case measure =>
        have hq' := Hq.out
        (simp [intOf]; omega)
theorem FormatInt_m1 (w : World) :
    Calls Try.prog 25 #[.int .i64 (-1)] w fun e w' => e = .returned (.string (fmtB (-1))) ∧ Ext w w' := by
  have hO0 := ownB_made (Ext.refl w)
  have hE0 := (Ext.refl w).alloc (.cells #[] 5)
  have Hf := Lib.hid fmtB_m1
  go_enter Try.func25, Try.ntmps25
  go_wp2_with fail
  go_loopw [3, 4] (fun v d wr => Ext w wr ∧ ((d = .int .i64 (-1) ∧ OwnB w wr v []) ∨ (d = .int .i64 0 ∧ OwnB w wr v [49]))) (fun _ d _ => (intOf d).natAbs)
  case atStart => exact ⟨hE0, Or.inl ⟨rfl, hO0⟩⟩
  case round =>
    obtain ⟨hE, ⟨rfl, hO⟩ | ⟨rfl, hO⟩⟩ := hrel
    · go_wp2_with (at_builtin; refine wp_append1B rfl _ _ rfl w _ _ _ _ hO hE (by simp) rfl rfl ?_; intro v1 w1 hO1 hE1)
      go_roundw
      case rel => exact ⟨hE1, Or.inr ⟨rfl, hO1⟩⟩
      case measure => (simp [intOf])
    · go_wp2_with (at_builtin; go_loud (refine wp_append1B rfl _ _ rfl w _ _ _ _ hO hE (by simp) rfl rfl ?_; intro v1 w1 hO1 hE1; obtain ⟨l, hl⟩ : ∃ l : List Int, l = [49] ++ [45] := ⟨_, rfl⟩; rw [← hl] at hO1; have hl0 : 0 < l.length := (by rw [hl]; simp); obtain ⟨g, c, hv, hlc, hg0, hg1, -⟩ := hO1.shape hl0; obtain ⟨L, hL⟩ : ∃ L, L = l.length := ⟨_, rfl⟩; have hL2 : L ≤ 2 := (by rw [hL, hl]; simp); rw [← hL] at hl0 hlc hv; subst hv; have HL := Lib.hid hL; have Hl := Lib.hid hl; have HO := Lib.hid hO1; clear hL hl hO1 hO))
      have hixB : ∀ (i : Nat) W, i < L → (Instr.indexAt 46 (.slice (some ⟨g, 0, none⟩) L c) (.int .i64 (i : Int))).run Try.prog W = .ok (.pointer (some ⟨g, i, none⟩)) W := by
        intro i W hi
        rw [run_indexAt_slice (h := elB), if_pos (by omega), szBt]
        simp [Result.andThen, Addr.add_lit]
      go_wp2_with fail
      go_loopw [6, 7] (fun i j wr => ∃ (k jn : Nat), k ≤ jn + 1 ∧ jn + k + 1 = L ∧ i = .int .i64 k ∧ j = .int .i64 jn ∧ Ext w wr ∧ OwnB w wr (.slice (some ⟨g, 0, none⟩) L c) (revk l k)) (fun _ j _ => (intOf j).toNat)
      case atStart => exact ⟨0, L - 1, by omega, by omega, rfl, by go_num, hE1, by rw [revk_zero]; exact HO.out⟩
      case round =>
        obtain ⟨k, jn, hk, hkj, rfl, rfl, hE2, hO2⟩ := hrel
        have Hkj := Lib.hid hkj
        by_cases hlt : k < jn
        · have hkL : k < L := by omega
          have hjL : jn < L := by omega
          clear hkj
          have hl2 : (revk l k).length = L := by rw [revk_len, ← HL.out]
          obtain ⟨hck, hfk⟩ := hO2.cellAt hl2 k hkL
          obtain ⟨hcj, hfj⟩ := hO2.cellAt hl2 jn hjL
          have Hl2 := Lib.hid hl2
          have HO2 := Lib.hid hO2
          clear hl2 hO2
          have hne : ¬ k = jn := by omega
          have hne2 : ¬ jn = k := by omega
          go_wp2_with fail
          go_big_region
          go_wp2_with fail
          go_roundw
          case rel =>
            have hkj' := Hkj.out
            have hj2 : (revk l k).length - 1 - k = jn := by rw [Hl2.out]; omega
            obtain ⟨hO3, hG3⟩ := HO2.out.stored_grown Hl2.out k (nth (revk l k) jn)
            obtain ⟨hO4, hG4⟩ := hO3.stored_grown (by rw [List.length_set]; exact Hl2.out) jn (nth (revk l k) k)
            have hst := revk_step l k (by rw [← HL.out]; omega)
            rw [← HL.out, show L - 1 - k = jn by omega] at hst
            rw [hst] at hO4
            exact ⟨k + 1, jn - 1, by omega, by omega, by go_num, by go_num, ((hE2.grown hG3 (fun q hq => by cases hq; exact hg0)).grown hG4 (fun q hq => by cases hq; exact hg0)).drew, hO4⟩
          case measure => (simp [intOf]; omega)
        · clear hkj
          have hcv := hO2.str (by rw [revk_len, ← HL.out])
          have He : Hid (strOfNums (revk l k) = fmtB (-1)) := Lib.hid (by
            have hk' := Hkj.out
            have hL' := HL.out
            rw [revk_end l k (by omega), Hl.out, Hf.out]; rfl)
          go_wp2_with fail
          go_ret
          exact ⟨ret_str He.out, hE2⟩
theorem FormatInt_zero (w : World) :
    Calls Try.prog 25 #[.int .i64 0] w fun e w' => e = .returned (.string (fmtB 0)) ∧ Ext w w' := by
  have e : fmtB 0 = ⟨#[48]⟩ := by unfold fmtB; rw [if_pos rfl]
  have He := Lib.hid e
  clear e
  go_enter Try.func25, Try.ntmps25
  go_wp2_with fail
  go_ret
  exact ⟨ret_str He.out.symm, Ext.refl _⟩
theorem FormatInt_any (n : Int) (hn : -1 ≤ n ∧ n < 1000000000000) (w : World) :
    Calls Try.prog 25 #[.int .i64 n] w fun e w' => e = .returned (.string (fmtB n)) ∧ Ext w w' := by
  rcases (by omega : n = -1 ∨ n = 0 ∨ 0 < n) with rfl | rfl | h
  · exact FormatInt_m1 w
  · exact FormatInt_zero w
  · obtain ⟨m, rfl⟩ := Int.eq_ofNat_of_zero_le (show 0 ≤ n by omega)
    exact FormatInt_nat m (by omega) (by omega) w
end Go.Zz

/- Numbers that are glued: plain; narrow; numbers of the reference. -/
namespace Go.Zz
open Go.RowKit Go.Proofs
set_option maxHeartbeats 400000
set_option maxRecDepth 4000

theorem rd_len (k : Nat) : ∀ m, m < 10 ^ k → (rd m).length ≤ k := by
  induction k with
  | zero => intro m h; have : m = 0 := by omega
            subst this; rw [rd_zero]; simp
  | succ k ih =>
    intro m h
    by_cases hm : m = 0
    · subst hm; rw [rd_zero]; simp
    · rw [rd_pos hm]
      have := ih (m / 10) (by rw [Nat.pow_succ] at h; omega)
      simp; omega
theorem digs_size {m : Nat} (h : m < 1000000000000) : (digs m ⟨#[]⟩).size ≤ 12 := by
  rw [digs_rd, ByteArray.size_append, strOfNums_size, List.length_reverse]
  have := rd_len 12 m (by omega)
  have e : (⟨#[]⟩ : ByteArray).size = 0 := rfl
  omega
theorem digs_some {m : Nat} (h : 0 < m) : 1 ≤ (digs m ⟨#[]⟩).size := by
  rw [digs_rd, ByteArray.size_append, strOfNums_size, List.length_reverse, rd_pos (by omega)]
  simp; omega
theorem fmtB_size {n : Int} (h : -1 ≤ n ∧ n < 1000000000000) : (fmtB n).size ≤ 13 := by
  unfold fmtB
  split
  · decide
  · split
    · have := digs_size (m := n.natAbs) (by omega)
      rw [ByteArray.size_append]
      have e : (⟨#[45]⟩ : ByteArray).size = 1 := rfl
      omega
    · have := digs_size (m := n.natAbs) (by omega)
      omega
theorem fmtB_some {n : Int} (h : -1 ≤ n ∧ n < 1000000000000) : 1 ≤ (fmtB n).size := by
  unfold fmtB
  split
  · decide
  · split
    · rw [ByteArray.size_append]
      have e : (⟨#[45]⟩ : ByteArray).size = 1 := rfl
      omega
    · exact digs_some (by omega)
/-- the first k texts of f, with s between them -/
def jn (s : ByteArray) (f : Nat → ByteArray) : Nat → ByteArray
  | 0 => ⟨#[]⟩
  | k + 1 => (if 0 < k then jn s f k ++ s else jn s f k) ++ f k
theorem jn_first (s : ByteArray) (f : Nat → ByteArray) : jn s f 1 = ⟨#[]⟩ ++ f 0 := rfl
theorem jn_next (s : ByteArray) (f : Nat → ByteArray) {k : Nat} (h : 0 < k) : jn s f (k + 1) = (jn s f k ++ s) ++ f k := by
  show (if 0 < k then _ else _) ++ _ = _
  rw [if_pos h]
theorem jn_size (s : ByteArray) (f : Nat → ByteArray) (hs : s.size ≤ 1) : ∀ k, (∀ i, i < k → (f i).size ≤ 13) → (jn s f k).size ≤ 14 * k := by
  intro k
  induction k with
  | zero => intro _; exact Nat.le_refl _
  | succ k ih =>
    intro h
    have h1 := ih (fun i hi => h i (by omega))
    have h2 := h k (by omega)
    unfold jn
    split <;> simp only [ByteArray.size_append] <;> omega
theorem jn_some (s : ByteArray) (f : Nat → ByteArray) (k : Nat) (h : 0 < k) (hf : ∀ i, i < k → 1 ≤ (f i).size) : 1 ≤ (jn s f k).size := by
  obtain ⟨j, rfl⟩ : ∃ j, k = j + 1 := ⟨k - 1, by omega⟩
  have := hf j (by omega)
  unfold jn
  rw [ByteArray.size_append]; omega
theorem str_some {t : ByteArray} (h : 1 ≤ t.size) : t.toList.isEmpty = false := by
  rw [ByteArray.toList_eq, List.isEmpty_eq_false_iff]
  intro h2
  have h3 : t.data.toList.length = 0 := by rw [h2]; rfl
  rw [Array.length_toList] at h3
  have h4 : t.size = t.data.size := rfl
  omega
def clampF (x : Int) : Int := min (max x (-1)) 99
theorem clampF_in (x : Int) : -1 ≤ clampF x ∧ clampF x < 1000000000000 := by unfold clampF; omega
def comma : ByteArray := ⟨#[44]⟩
def clS (l : List Int) (k : Nat) : ByteArray := fmtB (clampF (nth l k))
theorem clS_size (l : List Int) (k : Nat) : (clS l k).size ≤ 13 := fmtB_size (clampF_in _)
theorem clS_some (l : List Int) (k : Nat) : 1 ≤ (clS l k).size := fmtB_some (clampF_in _)
def shortF (l : List Int) : ByteArray := if l.length = 0 ∨ 40 < l.length then ⟨#[110, 111, 110, 101]⟩ else jn comma (clS l) l.length
end Go.Zz

/- Slices of strings that a call makes; glued. -/
namespace Go.Zz
open Go.RowKit Go.Proofs
set_option maxHeartbeats 400000
set_option maxRecDepth 4000

theorem infoS : (Try.prog.info? 9).map (fun i => (i.zero, i.size, i.bytes)) = some (some (.string ⟨#[]⟩), 1, 16) := by kernel_rfl
theorem undS : Try.prog.underlying 54 = some (.slice 9) := by kernel_rfl
theorem elS : Try.prog.underlying 54 = some (.slice (Try.prog.elem 54)) := by kernel_rfl
theorem szS : ∀ w, (Go.sizeOf (Try.prog.elem 54)).run Try.prog w = .ok 1 w := fun w => by kernel_rfl
def nthS (l : List ByteArray) (i : Nat) : ByteArray := l.getD i ⟨#[]⟩
/-- v is a slice of strings of the call's own, which reads as l -/
def OwnS (w0 w : World) (v : Value) (l : List ByteArray) : Prop :=
  w.ownsRow w0.heap.size 9 1 v l.length (l.map Value.string) ∧ l.length ≤ 1000000
theorem OwnS.blk {w0 w : World} {v : Value} {l : List ByteArray} (h : OwnS w0 w v l) : ∀ k, v.ownBlock = some k → w0.heap.size ≤ k ∧ k < w.heap.size := h.1.lt
theorem OwnS.alloc {w0 w : World} {v : Value} {l : List ByteArray} (h : OwnS w0 w v l) (o : Obj) : OwnS w0 (w.alloc o) v l := ⟨h.1.alloc o, h.2⟩
theorem OwnS.ext {w0 w w' : World} {v : Value} {l : List ByteArray} (h : OwnS w0 w v l) (hE : Ext w w') : OwnS w0 w' v l := by
  refine ⟨h.1.kept (row := none) ⟨hE.os, hE.tape, hE.output, hE.size, fun k hk _ => hE.block k hk⟩ ?_, h.2⟩
  cases hv : v.ownBlock <;> simp
theorem ownS_made {w0 w : World} (hE : Ext w0 w) : OwnS w0 (w.alloc (.cells #[] 9)) (.slice (some ⟨w.heap.size, 0, none⟩) 0 0) [] := by
  have := World.ownsRow_lit (base := w0.heap.size) (e := 9) (size := 1) w #[] 0 hE.size (by unfold maxLen; omega) (by simp)
  exact ⟨by simpa using this, by simp⟩
/-- v is a slice that reads as the strings of l -/
def Strs (w : World) (v : Value) (l : List ByteArray) : Prop :=
  ∃ (ao : Option Addr) (c : Nat), v = .slice ao l.length c ∧ l.length ≤ 1000000 ∧ ∀ i, i < l.length → ∃ g, ao = some ⟨g, 0, none⟩ ∧ w.cell? ⟨g, i, none⟩ = some (.string (nthS l i))
theorem OwnS.strs {w0 w : World} {v : Value} {l : List ByteArray} (h : OwnS w0 w v l) : Strs w v l := by
  obtain ⟨h1, h2⟩ := h
  rcases h1.2 with ⟨rfl, hl⟩ | ⟨g, cap, cur, rfl, hg, hh, hc, r⟩
  · exact ⟨none, 0, by rw [hl], h2, by omega⟩
  · refine ⟨some ⟨g, 0, none⟩, cap, rfl, h2, fun i hi => ⟨g, rfl, ?_⟩⟩
    rw [World.ownsRow.cellAt h1 i (by omega)]
    simp [nthS, List.getD, hi]
section
variable {ops : Array Oper} {rest : List Oper} {o : Oper} {a : Act} {Q : Exit → Act → World → Prop}
theorem wp_append1S (hg : o.guard = none) (s x : Operand) (hop : o.op = Op.call { callee := Callee.builtin Builtin.append, args := #[s, x], argTypes := #[54, 54] })
    (w0 W : World) (v : Value) (l : List ByteArray) (y : ByteArray) (hO : OwnS w0 W v l) (hE : Ext w0 W) (hn : l.length < 1000000) (hs : a.eval s = v) (hx : a.eval x = .slice (some ⟨W.heap.size, 0, none⟩) 1 1)
    (hK : ∀ v' w', OwnS w0 w' v' (l ++ [y]) → Ext w0 w' → wpList Try.prog ops Q rest (a.put o.dst v') w') :
    wpList Try.prog ops Q (o :: rest) a (W.alloc (.cells #[.string y] 9)) := by
  obtain ⟨i, hi, hz, hs1, hby⟩ := info_parts infoS
  refine wpList_append_own _ hg s x 54 hop w0.heap.size 9 i (.string ⟨#[]⟩) 1 16 undS hi hz hs1 hby rfl (by omega) v l.length _ hs (hO.alloc _).1 ⟨W.heap.size, 0, none⟩ 1 1 [.string y] hx rfl ?_ (by simp [Value.oneCell']) (by unfold maxLen; omega) (by omega) (by have := hE.size; simp; omega) ?_
  · exact cell_one_new _ _ _
  · intro v' w' h1 hg' _
    have hE1 := hE.alloc (.cells #[.string y] 9)
    refine hK v' w' ⟨by simpa using h1, by simp; omega⟩ (hE1.grown hg' fun k hk => (hO.blk k hk).1)
end
theorem glued_any (v : Value) (l : List ByteArray) (s : ByteArray) (w : World) (h : Strs w v l) (hs : s.size ≤ 1) (hl : ∀ i, i < l.length → (nthS l i).size ≤ 13) :
    Calls Try.prog 44 #[v, .string s] w fun e w' => e = .returned (.string (jn s (nthS l) l.length)) ∧ w = w' := by
  obtain ⟨ao, c, rfl, hlen, hcell⟩ := h
  have hix : ∀ (i : Nat) W, i < l.length → ∃ g, ao = some ⟨g, 0, none⟩ ∧ (Instr.indexAt 54 (.slice ao l.length c) (.int .i64 (i : Int))).run Try.prog W = .ok (.pointer (some ⟨g, i, none⟩)) W := by
    intro i W hi
    obtain ⟨g, rfl, -⟩ := hcell i hi
    refine ⟨g, rfl, ?_⟩
    rw [run_indexAt_slice (h := elS), if_pos (by omega), szS]
    simp [Result.andThen, Addr.add_lit]
  have Hl := Lib.hid hl
  clear hl
  go_enter Try.func44, Try.ntmps44
  go_wp2_with fail
  go_loop [5, 10] (fun t i => ∃ (k : Nat) (u : ByteArray), k ≤ l.length ∧ i = .int .i64 k ∧ t = .string u ∧ Hid (u = jn s (nthS l) k)) (fun _ i => l.length - (intOf i).toNat)
  case atStart => exact ⟨0, _, by omega, rfl, rfl, Lib.hid rfl⟩
  case round =>
    obtain ⟨k, u, hk, rfl, rfl, Hu⟩ := hrel
    have hus : u.size ≤ 14 * k := by rw [Hu.out]; exact jn_size _ _ hs k fun i hi => Hl.out i (by omega)
    by_cases hlt : k < l.length
    · obtain ⟨g, hg, hix1⟩ := hix k w hlt
      obtain ⟨g', hg', hck⟩ := hcell k hlt
      have hgg : g' = g := by rw [hg] at hg'; simp only [Option.some.injEq, Addr.mk.injEq, and_true] at hg'; exact hg'.symm
      subst hgg
      clear hix hcell
      subst hg
      have hys := Hl.out k hlt
      obtain ⟨y, hy⟩ : ∃ y, y = nthS l k := ⟨_, rfl⟩
      rw [← hy] at hck hys
      have Hy := Lib.hid hy
      clear hy
      by_cases hk0 : 0 < k
      · have hk1 : (0:Int) < k := by omega
        go_wp2_with fail
        go_round
        case rel => exact ⟨k + 1, _, by omega, by go_num, rfl, Lib.hid (by rw [jn_next _ _ hk0, ← Hu.out, Hy.out])⟩
        case measure => (simp [intOf]; omega)
      · have hk1 : k = 0 := by omega
        subst hk1
        go_wp2_with fail
        go_round
        case rel => exact ⟨1, _, by omega, rfl, rfl, Lib.hid (by rw [jn_first, Hu.out, Hy.out]; rfl)⟩
        case measure => (simp [intOf]; omega)
    · have hkl : k = l.length := by omega
      subst hkl
      clear hix hcell
      go_wp2_with fail
      go_ret
      exact ⟨ret_str Hu.out, rfl⟩
end Go.Zz

/- Lines: texts with single spaces between. -/
namespace Go.Zz
open Go.RowKit Go.Proofs
set_option maxHeartbeats 400000
set_option maxRecDepth 4000

theorem jn_size2 (s : ByteArray) (f : Nat → ByteArray) (hs : s.size ≤ 1) : ∀ k, (∀ i, i < k → (f i).size ≤ 5000) → (jn s f k).size ≤ 5001 * k := by
  intro k
  induction k with
  | zero => intro _; exact Nat.le_refl _
  | succ k ih =>
    intro h
    have h1 := ih (fun i hi => h i (by omega))
    have h2 := h k (by omega)
    unfold jn
    split <;> simp only [ByteArray.size_append] <;> omega
def spB : ByteArray := ⟨#[32]⟩
def lineF (l : List ByteArray) : ByteArray := jn spB (nthS l) l.length
theorem glued_big (v : Value) (l : List ByteArray) (s : ByteArray) (w : World) (h : Strs w v l) (hs : s.size ≤ 1) (hl : ∀ i, i < l.length → (nthS l i).size ≤ 5000) (hn : l.length ≤ 100) :
    Calls Try.prog 44 #[v, .string s] w fun e w' => e = .returned (.string (jn s (nthS l) l.length)) ∧ w = w' := by
  obtain ⟨ao, c, rfl, hlen, hcell⟩ := h
  have hix : ∀ (i : Nat) W, i < l.length → ∃ g, ao = some ⟨g, 0, none⟩ ∧ (Instr.indexAt 54 (.slice ao l.length c) (.int .i64 (i : Int))).run Try.prog W = .ok (.pointer (some ⟨g, i, none⟩)) W := by
    intro i W hi
    obtain ⟨g, rfl, -⟩ := hcell i hi
    refine ⟨g, rfl, ?_⟩
    rw [run_indexAt_slice (h := elS), if_pos (by omega), szS]
    simp [Result.andThen, Addr.add_lit]
  have Hl := Lib.hid hl
  clear hl
  go_enter Try.func44, Try.ntmps44
  go_wp2_with fail
  go_loop [5, 10] (fun t i => ∃ (k : Nat) (u : ByteArray), k ≤ l.length ∧ i = .int .i64 k ∧ t = .string u ∧ Hid (u = jn s (nthS l) k)) (fun _ i => l.length - (intOf i).toNat)
  case atStart => exact ⟨0, _, by omega, rfl, rfl, Lib.hid rfl⟩
  case round =>
    obtain ⟨k, u, hk, rfl, rfl, Hu⟩ := hrel
    have hus : u.size ≤ 5001 * k := by rw [Hu.out]; exact jn_size2 _ _ hs k fun i hi => Hl.out i (by omega)
    by_cases hlt : k < l.length
    · obtain ⟨g, hg, hix1⟩ := hix k w hlt
      obtain ⟨g', hg', hck⟩ := hcell k hlt
      have hgg : g' = g := by rw [hg] at hg'; simp only [Option.some.injEq, Addr.mk.injEq, and_true] at hg'; exact hg'.symm
      subst hgg
      clear hix hcell
      subst hg
      have hys := Hl.out k hlt
      obtain ⟨y, hy⟩ : ∃ y, y = nthS l k := ⟨_, rfl⟩
      rw [← hy] at hck hys
      have Hy := Lib.hid hy
      clear hy
      by_cases hk0 : 0 < k
      · have hk1 : (0:Int) < k := by omega
        go_wp2_with fail
        go_round
        case rel => exact ⟨k + 1, _, by omega, by go_num, rfl, Lib.hid (by rw [jn_next _ _ hk0, ← Hu.out, Hy.out])⟩
        case measure => (simp [intOf]; omega)
      · have hk1 : k = 0 := by omega
        subst hk1
        go_wp2_with fail
        go_round
        case rel => exact ⟨1, _, by omega, rfl, rfl, Lib.hid (by rw [jn_first, Hu.out, Hy.out]; rfl)⟩
        case measure => (simp [intOf]; omega)
    · have hkl : k = l.length := by omega
      subst hkl
      clear hix hcell
      go_wp2_with fail
      go_ret
      exact ⟨ret_str Hu.out, rfl⟩
theorem line_any (v : Value) (l : List ByteArray) (w : World) (h : Strs w v l) (hl : ∀ i, i < l.length → (nthS l i).size ≤ 5000) (hn : l.length ≤ 100) :
    Calls Try.prog 23 #[v] w fun e w' => e = .returned (.string (lineF l)) ∧ w = w' := by
  have hc := glued_big v l spB w h (by decide) hl hn
  go_enter Try.func23, Try.ntmps23
  go_wp2_with (refine hc.mono ?_; rintro e w' ⟨rfl, rfl⟩)
  go_ret
  exact ⟨rfl, rfl⟩
/-- a slice of strings that a call has just built -/
theorem strs_lit (w : World) (l : List ByteArray) (T : TypeId) (hn : l.length ≤ 1000000) : Strs (w.alloc (.cells (l.map Value.string).toArray T)) (.slice (some ⟨w.heap.size, 0, none⟩) l.length l.length) l := by
  refine ⟨_, l.length, rfl, hn, fun i hi => ⟨_, rfl, ?_⟩⟩
  have := (Blk.new w T (l.map Value.string).toArray).cell (i := i) (v := .string (nthS l i)) (by simp [nthS, List.getD, hi])
  exact this
theorem Strs.ext {w w' : World} {v : Value} {l : List ByteArray} (h : Strs w v l) (hE : Ext w w') : Strs w' v l := by
  obtain ⟨ao, c, rfl, hn, hc⟩ := h
  exact ⟨ao, c, rfl, hn, fun i hi => by obtain ⟨g, rfl, hcc⟩ := hc i hi; exact ⟨g, rfl, hE.cell hcc⟩⟩
end Go.Zz

/- Lines with more parts where something is so; l34Yes. -/
namespace Go.Zz
open Go.RowKit Go.Proofs
set_option maxHeartbeats 1000000
set_option maxRecDepth 4000

theorem ownS_one (w : World) (s : ByteArray) : OwnS w (w.alloc (.cells #[.string s] 9)) (.slice (some ⟨w.heap.size, 0, none⟩) 1 1) [s] := by
  have := World.ownsRow_lit (base := w.heap.size) (e := 9) (size := 1) w #[.string s] 1 (Nat.le_refl _) (by unfold maxLen; omega) (by simp)
  exact ⟨by simpa using this, by simp⟩
section
variable {ops : Array Oper} {rest : List Oper} {o : Oper} {a : Act} {Q : Exit → Act → World → Prop}
theorem wp_appendsS (hg : o.guard = none) (s x : Operand) (hop : o.op = Op.call { callee := Callee.builtin Builtin.append, args := #[s, x], argTypes := #[54, 54] })
    (w0 W : World) (v u : Value) (l m : List ByteArray) (hO : OwnS w0 W v l) (hM : Strs W u m) (hE : Ext w0 W) (hm0 : 0 < m.length) (hn : l.length + m.length < 1000000) (hs : a.eval s = v) (hx : a.eval x = u)
    (hK : ∀ v' w', OwnS w0 w' v' (l ++ m) → Ext w0 w' → wpList Try.prog ops Q rest (a.put o.dst v') w') :
    wpList Try.prog ops Q (o :: rest) a W := by
  obtain ⟨i, hi, hz, hs1, hby⟩ := info_parts infoS
  obtain ⟨ao, c, rfl, hlen, hcell⟩ := hM
  obtain ⟨g, rfl, -⟩ := hcell 0 hm0
  refine wpList_append_own _ hg s x 54 hop w0.heap.size 9 i (.string ⟨#[]⟩) 1 16 undS hi hz hs1 hby rfl (by omega) v l.length _ hs hO.1 ⟨g, 0, none⟩ m.length c (m.map Value.string) hx (by simp) ?_ ?_ (by unfold maxLen; omega) (by omega) hE.size ?_
  · intro j u hu
    have hj : j < m.length := by have := (List.getElem?_eq_some_iff.1 hu).1; simpa using this
    obtain ⟨g', hg', hc⟩ := hcell j hj
    simp only [Option.some.injEq, Addr.mk.injEq, and_true] at hg'
    subst hg'
    rw [Addr.add_lit, Nat.zero_add, hc, ← hu]; simp [nthS, List.getD, hj]
  · intro u hu
    obtain ⟨y, _, rfl⟩ := List.mem_map.1 hu
    rfl
  · intro v' w' h1 hg' _
    exact hK v' w' ⟨by simpa using h1, by simp; omega⟩ (hE.grown hg' fun k hk => (hO.blk k hk).1)
end
theorem ifSo_any (s : ByteArray) (b : Bool) (v : Value) (m : List ByteArray) (w : World) (h : Strs w v m) (hs : s.size ≤ 5000) (hm : ∀ i, i < m.length → (nthS m i).size ≤ 5000) (h0 : 0 < m.length) (hn : m.length ≤ 50) :
    Calls Try.prog 29 #[.string s, .bool b, v] w fun e w' => e = .returned (.string (if b then lineF (s :: m) else s)) ∧ Ext w w' := by
  cases b
  · go_enter Try.func29, Try.ntmps29
    go_wp2_with fail
    go_ret
    exact ⟨rfl, Ext.refl _⟩
  · have hE := (Ext.refl w).alloc (.cells #[.string s] 9)
    have hM := h.ext hE
    have hO := ownS_one w s
    have hcL := fun v' W (hv : Strs W v' (s :: m)) => line_any v' (s :: m) W hv (fun i hi => by
      cases i with
      | zero => exact hs
      | succ i => exact hm i (by simpa using hi)) (by simp; omega)
    have hln : [s].length + m.length < 1000000 := by simp; omega
    obtain ⟨ao, c, rfl, -, -⟩ := h
    clear hm hs
    go_enter Try.func29, Try.ntmps29
    go_wp2_with (first | (at_builtin; refine wp_appendsS rfl _ _ rfl w _ _ _ _ _ hO hM hE h0 hln rfl rfl ?_; intro v1 w1 hO1 hE1) | (go_at_call 23; refine (hcL _ _ hO1.strs).mono ?_; rintro e w2 ⟨rfl, rfl⟩))
    go_ret
    exact ⟨rfl, hE1⟩
theorem yes_any (b : Bool) (s : ByteArray) (w : World) :
    Calls Try.prog 18 #[.bool b, .string s] w fun e w' => e = .returned (.string (if b then s else ⟨#[]⟩)) ∧ w = w' := by
  cases b
  · go_enter Try.func18, Try.ntmps18
    go_wp2_with fail
    go_ret
    exact ⟨rfl, rfl⟩
  · go_enter Try.func18, Try.ntmps18
    go_wp2_with fail
    go_ret
    exact ⟨rfl, rfl⟩
theorem bytes_ext {x y : ByteArray} (h : x.data.toList = y.data.toList) : x = y := by
  cases x; cases y; simp only at h; congr 1; exact Array.toList_inj.1 h
theorem data_app (x y : ByteArray) : (x ++ y).data.toList = x.data.toList ++ y.data.toList := by
  rw [ByteArray.data_append]; simp
end Go.Zz
