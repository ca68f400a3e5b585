/- numbers and short of the program. -/
import Derived.Test.YtdlbbpeahicakaaGreatGr20
import Derived.Test.YtdlbbpeahicakaaGreatGr7
import Derived.Test.YtdlbbpeahicakaaGreatGr3
import Derived.Test.YtdlbbpeahicakaaGreatGr4
namespace Go.Zz
open Go.RowKit Go.Proofs
set_option maxHeartbeats 400000
set_option maxRecDepth 4000

theorem jn_congr (s : ByteArray) (f g : Nat → ByteArray) : ∀ k, (∀ i, i < k → f i = g i) → jn s f k = jn s g k := by
  intro k
  induction k with
  | zero => intro _; rfl
  | succ k ih => intro h; unfold jn; rw [ih fun i hi => h i (by omega), h k (by omega)]
theorem nthS_map (l : List Int) (i : Nat) (h : i < l.length) : nthS (l.map fmtB) i = fmtB (nth l i) := by
  simp [nthS, nth, List.getD, h]
def numF (l : List Int) : ByteArray := if l.length = 0 then ⟨#[110, 111, 110, 101]⟩ else jn comma (fun i => fmtB (nth l i)) l.length
theorem take_fmt (l : List Int) (k : Nat) (h : k < l.length) : (l.take (k + 1)).map fmtB = (l.take k).map fmtB ++ [fmtB (nth l k)] := by
  rw [List.take_add_one, List.map_append]
  simp [nth, List.getD, h]
theorem numbers_any (v : Value) (l : List Int) (w : World) (h : Ints w v l) (hr : ∀ i, i < l.length → -1 ≤ nth l i ∧ nth l i < 1000000000000) (hl : l.length ≤ 1000) :
    Calls Tryz.prog 72 #[v] w fun e w' => e = .returned (.string (numF l)) ∧ Ext w w' := by
  obtain ⟨ao, c, adr, rfl, hlen, hadr, hcell⟩ := h.op
  have hix := ints_index (c := c) elI szI hadr
  clear hadr h
  have Hr := Lib.hid hr
  clear hr
  have hO0 := ownS_made (Ext.refl w)
  have hE0 := (Ext.refl w).alloc (.cells #[] 9)
  by_cases h0 : l.length = 0
  · have He : Hid (numF l = ⟨#[110, 111, 110, 101]⟩) := Lib.hid (by unfold numF; rw [if_pos h0])
    go_enter Tryz.func72, Tryz.ntmps72
    go_wp2_with fail
    go_ret
    exact ⟨ret_str He.out.symm, Ext.refl _⟩
  · have h00 : ((l.length : Int) == 0) = false := by rw [beq_eq_false_iff_ne]; omega
    have He : Hid (numF l = jn comma (nthS (l.map fmtB)) (l.map fmtB).length) := Lib.hid (by
      unfold numF; rw [if_neg h0, List.length_map]
      exact jn_congr _ _ _ _ fun i hi => (nthS_map l i hi).symm)
    go_enter Tryz.func72, Tryz.ntmps72
    go_wp2_with fail
    go_loopw [3, 12] (fun v i wr => ∃ k : Nat, k ≤ l.length ∧ i = .int .i64 k ∧ OwnS w wr v ((l.take k).map fmtB) ∧ Ext w wr) (fun _ i _ => l.length - (intOf i).toNat)
    case atStart => exact ⟨0, by omega, rfl, hO0, hE0⟩
    case round =>
      obtain ⟨k, hk, rfl, hO, hE⟩ := hrel
      by_cases hlt : k < l.length
      · have hck := hcell k _ hlt hE
        have hrk := Hr.out k hlt
        have hcI := FormatInt_any (nth l k) hrk
        have hlk : ((l.take k).map fmtB).length < 1000000 := by rw [List.length_map, List.length_take]; omega
        go_wp2_with (first | (go_at_call 66; with_reducible refine (hcI _).mono ?_; rintro e wc ⟨rfl, hEc⟩) | (at_builtin; refine wp_append1S rfl _ _ rfl w _ _ _ _ (hO.ext hEc) (hE.trans hEc) hlk rfl rfl ?_; intro v1 w1 hO1 hE1))
        go_roundw
        case rel => exact ⟨k + 1, by omega, by go_num, by rw [take_fmt _ _ hlt]; exact hO1, hE1⟩
        case measure => (simp [intOf]; omega)
      · have hkl : k = l.length := by omega
        subst hkl
        rw [List.take_length] at hO
        have hS := hO.strs
        have hc := glued_any _ (l.map fmtB) comma _ hS (by decide) (fun i hi => by
          rw [List.length_map] at hi
          rw [nthS_map l i hi]; exact fmtB_size (Hr.out i hi))
        go_wp2_with (refine hc.mono ?_; rintro e w1 ⟨rfl, rfl⟩)
        go_ret
        exact ⟨ret_str (by rw [He.out, List.length_map]), hE⟩
theorem shortF_eq (l : List Int) (h : l.length ≤ 40) : shortF l = numF (l.map clampF) := by
  unfold shortF numF
  rw [List.length_map]
  by_cases h0 : l.length = 0
  · rw [if_pos (Or.inl h0), if_pos h0]
  · rw [if_neg (by omega), if_neg h0]
    exact jn_congr _ _ _ _ fun i hi => by simp [clS, nth, List.getD, hi]
theorem take_clamp (l : List Int) (k : Nat) (h : k < l.length) : (l.take (k + 1)).map clampF = (l.take k).map clampF ++ [clampF (nth l k)] := by
  rw [List.take_add_one, List.map_append]
  simp [nth, List.getD, h]
theorem nth_map_clamp (l : List Int) (i : Nat) (h : i < (l.map clampF).length) : -1 ≤ nth (l.map clampF) i ∧ nth (l.map clampF) i < 1000000000000 := by
  rw [List.length_map] at h
  have e : nth (l.map clampF) i = clampF (nth l i) := by simp [nth, List.getD, h]
  rw [e]; exact clampF_in _
--%call short 130 ext short_any _ _ _ ({0})
theorem short_any (v : Value) (l : List Int) (w : World) (h : Ints w v l) :
    Calls Tryz.prog 130 #[v] w fun e w' => e = .returned (.string (shortF l)) ∧ Ext w w' := by
  obtain ⟨ao, c, adr, rfl, hlen, hadr, hcell⟩ := h.op
  have hix := ints_index (c := c) elI szI hadr
  clear hadr h
  have hO0 := own_made (TI := 3) (n := 0) (by omega) (Ext.refl w) [] rfl
  have hE0 := (Ext.refl w).alloc (.cells #[] 3)
  by_cases h0 : 40 < l.length
  · have He : Hid (shortF l = ⟨#[110, 111, 110, 101]⟩) := Lib.hid (by unfold shortF; rw [if_pos (Or.inr h0)])
    have h1 : (40 : Int) < (l.length : Int) := by omega
    go_enter Tryz.func130, Tryz.ntmps130
    go_wp2_with fail
    go_ret
    exact ⟨ret_str He.out.symm, Ext.refl _⟩
  · have h1 : ¬ (40 : Int) < (l.length : Int) := by omega
    have h2 : decide ((40 : Int) < (l.length : Int)) = false := by simp; omega
    have He := Lib.hid (shortF_eq l (by omega))
    go_enter Tryz.func130, Tryz.ntmps130
    go_wp2_with fail
    go_loopw [3, 12] (fun v i wr => ∃ k : Nat, k ≤ l.length ∧ i = .int .i64 k ∧ Own 3 w wr v ((l.take k).map clampF) ∧ Ext w wr) (fun _ i _ => l.length - (intOf i).toNat)
    case atStart => exact ⟨0, by omega, rfl, hO0, hE0⟩
    case round =>
      obtain ⟨k, hk, rfl, hO, hE⟩ := hrel
      by_cases hlt : k < l.length
      · have hck := hcell k _ hlt hE
        have hcI := narrow_any (nth l k)
        have hlk : ((l.take k).map clampF).length < 17592186044416 := by rw [List.length_map, List.length_take]; omega
        go_wp2_with (first | (go_at_call 129; with_reducible refine (hcI _).mono ?_; rintro e wc ⟨rfl, hEc⟩; subst hEc) | (at_builtin; refine wp_append1 slI rfl _ _ rfl w _ _ _ _ hO hE hlk rfl rfl ?_; intro v1 w1 hO1 hE1))
        go_roundw
        case rel => exact ⟨k + 1, by omega, by go_num, by rw [take_clamp _ _ hlt]; exact hO1, hE1⟩
        case measure => (simp [intOf]; omega)
      · have hkl : k = l.length := by omega
        subst hkl
        rw [List.take_length] at hO
        have hI := hO.ints
        have hc := numbers_any _ (l.map clampF) _ hI (fun i hi => nth_map_clamp l i hi) (by rw [List.length_map]; omega)
        go_wp2_with (refine hc.mono ?_; rintro e w1 ⟨rfl, hE1⟩)
        go_ret
        exact ⟨ret_str He.out.symm, hE.trans hE1⟩
end Go.Zz

/- Lines: texts with single spaces between. -/
namespace Go.Zz
open Go.RowKit Go.Proofs
set_option maxHeartbeats 400000
set_option maxRecDepth 4000

theorem jn_size2 (s : ByteArray) (f : Nat → ByteArray) (hs : s.size ≤ 1) : ∀ k, (∀ i, i < k → (f i).size ≤ 5000) → (jn s f k).size ≤ 5001 * k := by
  intro k
  induction k with
  | zero => intro _; exact Nat.le_refl _
  | succ k ih =>
    intro h
    have h1 := ih (fun i hi => h i (by omega))
    have h2 := h k (by omega)
    unfold jn
    split <;> simp only [ByteArray.size_append] <;> omega
def spB : ByteArray := ⟨#[32]⟩
def lineF (l : List ByteArray) : ByteArray := jn spB (nthS l) l.length
theorem glued_big (v : Value) (l : List ByteArray) (s : ByteArray) (w : World) (h : Strs w v l) (hs : s.size ≤ 1) (hl : ∀ i, i < l.length → (nthS l i).size ≤ 5000) (hn : l.length ≤ 100) :
    Calls Tryz.prog 150 #[v, .string s] w fun e w' => e = .returned (.string (jn s (nthS l) l.length)) ∧ w = w' := by
  obtain ⟨ao, c, rfl, hlen, hcell⟩ := h
  have hix : ∀ (i : Nat) W, i < l.length → ∃ g, ao = some ⟨g, 0, none⟩ ∧ (Instr.indexAt 105 (.slice ao l.length c) (.int .i64 (i : Int))).run Tryz.prog W = .ok (.pointer (some ⟨g, i, none⟩)) W := by
    intro i W hi
    obtain ⟨g, rfl, -⟩ := hcell i hi
    refine ⟨g, rfl, ?_⟩
    rw [run_indexAt_slice (h := elS), if_pos (by omega), szS]
    simp [Result.andThen, Addr.add_lit]
  have Hl := Lib.hid hl
  clear hl
  go_enter Tryz.func150, Tryz.ntmps150
  go_wp2_with fail
  go_loop [5, 10] (fun t i => ∃ (k : Nat) (u : ByteArray), k ≤ l.length ∧ i = .int .i64 k ∧ t = .string u ∧ Hid (u = jn s (nthS l) k)) (fun _ i => l.length - (intOf i).toNat)
  case atStart => exact ⟨0, _, by omega, rfl, rfl, Lib.hid rfl⟩
  case round =>
    obtain ⟨k, u, hk, rfl, rfl, Hu⟩ := hrel
    have hus : u.size ≤ 5001 * k := by rw [Hu.out]; exact jn_size2 _ _ hs k fun i hi => Hl.out i (by omega)
    by_cases hlt : k < l.length
    · obtain ⟨g, hg, hix1⟩ := hix k w hlt
      obtain ⟨g', hg', hck⟩ := hcell k hlt
      have hgg : g' = g := by rw [hg] at hg'; simp only [Option.some.injEq, Addr.mk.injEq, and_true] at hg'; exact hg'.symm
      subst hgg
      clear hix hcell
      subst hg
      have hys := Hl.out k hlt
      obtain ⟨y, hy⟩ : ∃ y, y = nthS l k := ⟨_, rfl⟩
      rw [← hy] at hck hys
      have Hy := Lib.hid hy
      clear hy
      by_cases hk0 : 0 < k
      · have hk1 : (0:Int) < k := by omega
        go_wp2_with fail
        go_round
        case rel => exact ⟨k + 1, _, by omega, by go_num, rfl, Lib.hid (by rw [jn_next _ _ hk0, ← Hu.out, Hy.out])⟩
        case measure => (simp [intOf]; omega)
      · have hk1 : k = 0 := by omega
        subst hk1
        go_wp2_with fail
        go_round
        case rel => exact ⟨1, _, by omega, rfl, rfl, Lib.hid (by rw [jn_first, Hu.out, Hy.out]; rfl)⟩
        case measure => (simp [intOf]; omega)
    · have hkl : k = l.length := by omega
      subst hkl
      clear hix hcell
      go_wp2_with fail
      go_ret
      exact ⟨ret_str Hu.out, rfl⟩
theorem line_any (v : Value) (l : List ByteArray) (w : World) (h : Strs w v l) (hl : ∀ i, i < l.length → (nthS l i).size ≤ 5000) (hn : l.length ≤ 100) :
    Calls Tryz.prog 64 #[v] w fun e w' => e = .returned (.string (lineF l)) ∧ w = w' := by
  have hc := glued_big v l spB w h (by decide) hl hn
  go_enter Tryz.func64, Tryz.ntmps64
  go_wp2_with (refine hc.mono ?_; rintro e w' ⟨rfl, rfl⟩)
  go_ret
  exact ⟨rfl, rfl⟩
/-- a slice of strings that a call has just built -/
theorem strs_lit (w : World) (l : List ByteArray) (T : TypeId) (hn : l.length ≤ 1000000) : Strs (w.alloc (.cells (l.map Value.string).toArray T)) (.slice (some ⟨w.heap.size, 0, none⟩) l.length l.length) l := by
  refine ⟨_, l.length, rfl, hn, fun i hi => ⟨_, rfl, ?_⟩⟩
  have := (Blk.new w T (l.map Value.string).toArray).cell (i := i) (v := .string (nthS l i)) (by simp [nthS, List.getD, hi])
  exact this
theorem Strs.ext {w w' : World} {v : Value} {l : List ByteArray} (h : Strs w v l) (hE : Ext w w') : Strs w' v l := by
  obtain ⟨ao, c, rfl, hn, hc⟩ := h
  exact ⟨ao, c, rfl, hn, fun i hi => by obtain ⟨g, rfl, hcc⟩ := hc i hi; exact ⟨g, rfl, hE.cell hcc⟩⟩
end Go.Zz

/- FormatSequence of the program. -/
namespace Go.Zz
open Go.RowKit Go.Proofs
set_option maxHeartbeats 1000000
set_option maxRecDepth 4000

def pcB (X : List Nat) (i : Nat) : ByteArray := if 1 < mulI (castL X) (nthN X i) then (fmtB (nthN X i) ++ (⟨#[94]⟩ : ByteArray)) ++ fmtB (mulI (castL X) (nthN X i) : Nat) else fmtB (nthN X i)
def fqL (X : List Nat) : Nat → List ByteArray
  | 0 => []
  | k + 1 => if 0 < k ∧ nthN X (k - 1) = nthN X k then fqL X k else fqL X k ++ [pcB X k]
theorem fqL_same {X : List Nat} {k : Nat} (h0 : 0 < k) (h : nthN X (k - 1) = nthN X k) : fqL X (k + 1) = fqL X k := by
  conv => lhs; unfold fqL
  rw [if_pos ⟨h0, h⟩]
theorem fqL_new {X : List Nat} {k : Nat} (h : ¬ (0 < k ∧ nthN X (k - 1) = nthN X k)) : fqL X (k + 1) = fqL X k ++ [pcB X k] := by
  conv => lhs; unfold fqL
  rw [if_neg h]
theorem fqL_len (X : List Nat) : ∀ k, (fqL X k).length ≤ k
  | 0 => Nat.le_refl _
  | k + 1 => by
    have := fqL_len X k
    unfold fqL; split
    · omega
    · simp; omega
theorem mul_in {X : List Nat} (hX : X.length ≤ 1000) (x : Int) : -1 ≤ ((mulI (castL X) x : Nat) : Int) ∧ ((mulI (castL X) x : Nat) : Int) < 1000000000000 := by
  have := mulTo_le (castL X) x (castL X).length
  rw [castL_len] at this
  unfold mulI; rw [castL_len]; omega
theorem pcB_size {X : List Nat} (hX : X.length ≤ 1000) (h24 : ∀ x ∈ X, x < 24) {i : Nat} (hi : i < X.length) : (pcB X i).size ≤ 27 := by
  have h1 := h24 _ (nthN_mem hi)
  have h2 := fmtB_size (n := (nthN X i : Int)) (by omega)
  have h3 := fmtB_size (mul_in hX (nthN X i))
  unfold pcB
  split
  · rw [ByteArray.size_append, ByteArray.size_append]
    have : (⟨#[94]⟩ : ByteArray).size = 1 := rfl
    omega
  · omega
theorem fqL_size {X : List Nat} (hX : X.length ≤ 1000) (h24 : ∀ x ∈ X, x < 24) : ∀ k, k ≤ X.length → ∀ b ∈ fqL X k, b.size ≤ 27
  | 0, _, b, hb => by cases hb
  | k + 1, hk, b, hb => by
    have ih := fqL_size hX h24 k (by omega)
    unfold fqL at hb
    split at hb
    · exact ih b hb
    · rw [List.mem_append, List.mem_singleton] at hb
      rcases hb with hb | rfl
      · exact ih b hb
      · exact pcB_size hX h24 (by omega)
def sp1 : ByteArray := ⟨#[32]⟩
def fqF (l xs : List Int) : ByteArray := if seqB l xs then (if xs.length = 0 then ⟨#[110, 111, 110, 101]⟩ else jn sp1 (nthS (fqL (xs.map Int.toNat) xs.length)) (fqL (xs.map Int.toNat) xs.length).length) else ⟨#[]⟩
theorem fqF_no {l xs : List Int} (h : seqB l xs = false) : fqF l xs = ⟨#[]⟩ := by unfold fqF; rw [h]; rfl
theorem fqF_none {l xs : List Int} (h : seqB l xs = true) (h0 : xs.length = 0) : fqF l xs = ⟨#[110, 111, 110, 101]⟩ := by unfold fqF; rw [h, if_pos rfl, if_pos h0]
theorem fqF_yes {l : List Int} {X : List Nat} (h : seqB l (castL X) = true) (h0 : ¬ X.length = 0) : fqF l (castL X) = jn sp1 (nthS (fqL X X.length)) (fqL X X.length).length := by
  unfold fqF; rw [h, if_pos rfl, castL_len, if_neg h0, map_cast]
theorem FormatSequence_any (v u : Value) (l xs : List Int) (w : World) (h : Ints w v l) (hu : Ints w u xs) :
    Calls Tryz.prog 65 #[.agg #[v], u] w fun e w' => e = .returned (.string (fqF l xs)) ∧ Ext w w' := by
  obtain ⟨wb, hwb⟩ : ∃ wb, wb = w.alloc (.cells #[v] 27) := ⟨_, rfl⟩
  have hE0 := (Ext.refl w).alloc (.cells #[v] 27)
  have hb := box_cell w v 27
  rw [← hwb] at hE0 hb
  have hg : ∀ W, Ext wb W → Ints W v l := fun W hW => h.ext (hE0.trans hW)
  have hE := Ext.refl wb
  have Hsz : Hid (w.heap.size + 1 = wb.heap.size) := Lib.hid (by rw [hwb]; simp [go_sem])
  have Hwb := Lib.hid hwb
  clear hwb h
  have hbx := hb wb hE
  have HU := Lib.hid (fun W (hW : Ext wb W) => hu.ext (hE0.trans hW))
  cases hs : seqB l xs
  · have Hs := Lib.hid (fqF_no hs)
    have cS := fun W (hW : Ext wb W) => IsSequence_val v u l xs W (hg _ hW) (HU.out _ hW) hs
    go_enter Tryz.func65, Tryz.ntmps65
    go_wp2_with fail
    rw [← Hwb.out]
    refine (cS _ hE).mono ?_
    rintro e w1 ⟨rfl, hE1⟩
    go_wp2_with fail
    go_ret
    exact ⟨ret_str Hs.out.symm, hE0.trans hE1⟩
  have cS := fun W (hW : Ext wb W) => IsSequence_val v u l xs W (hg _ hW) (HU.out _ hW) hs
  obtain ⟨X, rfl, -, hX12, hgr, hX⟩ := seqB_nat hs
  have hu2 := hu.ext hE0
  obtain ⟨ao, c, adr, rfl, hadr, hcell⟩ := hu2.nats
  have hix := ints_index (c := c) elI szI hadr
  by_cases h0 : X.length = 0
  · have Hs := Lib.hid (fqF_none hs (by rw [castL_len]; exact h0))
    have h00 : (((X.length : Nat) : Int) == 0) = true := by rw [h0]; rfl
    clear h0 hX hcell hix hadr
    go_enter Tryz.func65, Tryz.ntmps65
    go_wp2_with fail
    rw [← Hwb.out]
    refine (cS _ hE).mono ?_
    rintro e w1 ⟨rfl, hE1⟩
    go_wp2_with fail
    go_ret
    exact ⟨ret_str Hs.out.symm, hE0.trans hE1⟩
  have Hs := Lib.hid (fqF_yes hs h0)
  have h00 : (((X.length : Nat) : Int) == 0) = false := by rw [beq_eq_false_iff_ne]; omega
  have Hsz := Lib.hid (fqL_size (X := X) (by omega) hX X.length (Nat.le_refl _))
  have HcX := Lib.hid hcell
  have HX := Lib.hid hX
  clear hadr hcell h0 hs hgr hu hX
  go_enter Tryz.func65, Tryz.ntmps65
  go_wp2_with fail
  rw [← Hwb.out]
  refine (cS _ hE).mono ?_
  rintro e w1 ⟨rfl, hE1⟩
  have hO0 := ownS_made (Ext.refl w1)
  have hEO := (Ext.refl w1).alloc (.cells #[] 9)
  go_wp2_with fail
  go_loopw [5, 20] (fun ov iv wr => ∃ k : Nat, k ≤ X.length ∧ iv = .int .i64 k ∧ OwnS w1 wr ov (fqL X k) ∧ Ext w1 wr) (fun _ iv _ => X.length - (intOf iv).toNat)
  case atStart => exact ⟨0, by omega, rfl, hO0, hEO⟩
  case round =>
    clear hO0 hEO
    obtain ⟨k, hk, rfl, hO, hF⟩ := hrel
    have hEr := hE1.trans hF
    by_cases hlt : k < X.length
    · have hx24 := HX.out _ (nthN_mem hlt)
      have hck := HcX.out k wr hlt hEr
      by_cases hsame : 0 < k ∧ nthN X (k - 1) = nthN X k
      · have Hn := Lib.hid (fqL_same hsame.1 hsame.2)
        have hk0 : (0 : Int) < (k : Int) := by omega
        have ix1 : ∀ W, (Instr.indexAt 22 (.slice ao X.length c) (.int .i64 ((k : Int) - 1))).run Tryz.prog W = .ok (.pointer (some (adr (k - 1)))) W := fun W => by rw [show ((k : Int) - 1) = ((k - 1 : Nat) : Int) by omega]; exact hix _ W (by omega)
        have hck1 : wr.cell? (adr (k - 1)) = some (.int .i64 (nthN X k : Int)) := by rw [← hsame.2]; exact HcX.out (k - 1) wr (by omega) hEr
        clear hsame
        go_wp2_with fail
        go_roundw
        case rel => exact ⟨k + 1, by omega, by go_num, by rw [Hn.out]; exact hO, hF⟩
        case measure => (simp [intOf]; omega)
      · have Hn := Lib.hid (fqL_new hsame)
        have hfl := fqL_len X k
        have hln : (fqL X k).length < 1000000 := by omega
        obtain ⟨x, hx⟩ : ∃ x, x = nthN X k := ⟨_, rfl⟩
        rw [← hx] at hck hx24
        have cI := fun W => FormatInt_any (x : Int) (by omega) W
        have cM := fun W (hW : Ext wb W) => MultiplicityIn_any (.slice ao X.length c) (castL X) (x : Int) W (HU.out _ hW)
        have hmi := mul_in (X := X) (by omega) (x : Int)
        obtain ⟨M, hM⟩ : ∃ M, M = mulI (castL X) (x : Int) := ⟨_, rfl⟩
        rw [← hM] at cM hmi
        have cJ := fun W => FormatInt_any (M : Int) hmi W
        have hs1 := fmtB_size (n := (x : Int)) (by omega)
        have hs2 := fmtB_size hmi
        by_cases hk0 : 0 < k
        · have hkI : (0 : Int) < (k : Int) := by omega
          have ix1 : ∀ W, (Instr.indexAt 22 (.slice ao X.length c) (.int .i64 ((k : Int) - 1))).run Tryz.prog W = .ok (.pointer (some (adr (k - 1)))) W := fun W => by rw [show ((k : Int) - 1) = ((k - 1 : Nat) : Int) by omega]; exact hix _ W (by omega)
          have hck1 := HcX.out (k - 1) wr (by omega) hEr
          have hne : (((nthN X (k - 1) : Nat) : Int) == (x : Int)) = false := by
            rw [beq_eq_false_iff_ne, hx]; intro e; exact hsame ⟨hk0, by omega⟩
          by_cases hgt : 1 < M
          · have hgI : (1 : Int) < (M : Int) := by omega
            have Hp : Hid (pcB X k = (fmtB (x : Int) ++ (⟨#[94]⟩ : ByteArray)) ++ fmtB (M : Int)) := Lib.hid (by unfold pcB; rw [← hx, ← hM, if_pos hgt])
            clear hx hM hsame hgt
            go_wp2_with (first | (go_at_call 66; with_reducible refine (cI _).mono ?_; rintro e2 w2 ⟨rfl, hE2⟩; have hE2b := hEr.trans hE2) | (go_at_call 90; refine (cM _ hE2b).mono ?_; rintro e' w' ⟨rfl, rfl⟩) | (go_at_call 66; with_reducible refine (cJ _).mono ?_; rintro e3 w3 ⟨rfl, hE3⟩; have hE23 := hE2.trans hE3) | (at_builtin; refine wp_append1S rfl _ _ rfl w1 _ _ _ _ (hO.ext hE23) (hF.trans hE23) hln rfl rfl ?_; intro v1 w4 hO1 hE4))
            go_roundw
            case rel => exact ⟨k + 1, by omega, by go_num, by rw [Hn.out, Hp.out]; exact hO1, hE4⟩
            case measure => (simp [intOf]; omega)
          · have hgI : ¬ (1 : Int) < (M : Int) := by omega
            have Hp : Hid (pcB X k = fmtB (x : Int)) := Lib.hid (by unfold pcB; rw [← hx, ← hM, if_neg hgt])
            clear hx hM hsame hgt
            go_wp2_with (first | (go_at_call 66; with_reducible refine (cI _).mono ?_; rintro e2 w2 ⟨rfl, hE2⟩; have hE2b := hEr.trans hE2) | (go_at_call 90; refine (cM _ hE2b).mono ?_; rintro e' w' ⟨rfl, rfl⟩) | (at_builtin; refine wp_append1S rfl _ _ rfl w1 _ _ _ _ (hO.ext hE2) (hF.trans hE2) hln rfl rfl ?_; intro v1 w4 hO1 hE4))
            go_roundw
            case rel => exact ⟨k + 1, by omega, by go_num, by rw [Hn.out, Hp.out]; exact hO1, hE4⟩
            case measure => (simp [intOf]; omega)
        · have hkI : ¬ (0 : Int) < (k : Int) := by omega
          by_cases hgt : 1 < M
          · have hgI : (1 : Int) < (M : Int) := by omega
            have Hp : Hid (pcB X k = (fmtB (x : Int) ++ (⟨#[94]⟩ : ByteArray)) ++ fmtB (M : Int)) := Lib.hid (by unfold pcB; rw [← hx, ← hM, if_pos hgt])
            clear hx hM hsame hgt
            go_wp2_with (first | (go_at_call 66; with_reducible refine (cI _).mono ?_; rintro e2 w2 ⟨rfl, hE2⟩; have hE2b := hEr.trans hE2) | (go_at_call 90; refine (cM _ hE2b).mono ?_; rintro e' w' ⟨rfl, rfl⟩) | (go_at_call 66; with_reducible refine (cJ _).mono ?_; rintro e3 w3 ⟨rfl, hE3⟩; have hE23 := hE2.trans hE3) | (at_builtin; refine wp_append1S rfl _ _ rfl w1 _ _ _ _ (hO.ext hE23) (hF.trans hE23) hln rfl rfl ?_; intro v1 w4 hO1 hE4))
            go_roundw
            case rel => exact ⟨k + 1, by omega, by go_num, by rw [Hn.out, Hp.out]; exact hO1, hE4⟩
            case measure => (simp [intOf]; omega)
          · have hgI : ¬ (1 : Int) < (M : Int) := by omega
            have Hp : Hid (pcB X k = fmtB (x : Int)) := Lib.hid (by unfold pcB; rw [← hx, ← hM, if_neg hgt])
            clear hx hM hsame hgt
            go_wp2_with (first | (go_at_call 66; with_reducible refine (cI _).mono ?_; rintro e2 w2 ⟨rfl, hE2⟩; have hE2b := hEr.trans hE2) | (go_at_call 90; refine (cM _ hE2b).mono ?_; rintro e' w' ⟨rfl, rfl⟩) | (at_builtin; refine wp_append1S rfl _ _ rfl w1 _ _ _ _ (hO.ext hE2) (hF.trans hE2) hln rfl rfl ?_; intro v1 w4 hO1 hE4))
            go_roundw
            case rel => exact ⟨k + 1, by omega, by go_num, by rw [Hn.out, Hp.out]; exact hO1, hE4⟩
            case measure => (simp [intOf]; omega)
    · have hkl : k = X.length := by omega
      have hS := (show OwnS w1 wr _ (fqL X X.length) by rw [← hkl]; exact hO).strs
      have hfl := fqL_len X X.length
      have hc := glued_big _ (fqL X X.length) sp1 wr hS (by decide) (fun i hi => by
        have := Hsz.out (nthS (fqL X X.length) i) (by
          have : nthS (fqL X X.length) i = (fqL X X.length)[i] := by simp [nthS, List.getD, hi]
          rw [this]; exact List.getElem_mem hi)
        omega) (by omega)
      clear hkl
      go_wp2_with (refine hc.mono ?_; rintro e w2 ⟨rfl, rfl⟩)
      go_ret
      exact ⟨ret_str Hs.out.symm, hE0.trans hEr⟩
end Go.Zz

/- FormatSet of the program. -/
namespace Go.Zz
open Go.RowKit Go.Proofs
set_option maxHeartbeats 400000
set_option maxRecDepth 4000

def fsF (l : List Int) (a : Int) : ByteArray := if isSetB l a then numF (castL (elems a.toNat)) else ⟨#[]⟩
theorem fsF_no {l : List Int} {a : Int} (h : isSetB l a = false) : fsF l a = ⟨#[]⟩ := by unfold fsF; rw [h]; rfl
theorem fsF_nat {l : List Int} {n : Nat} (h : isSetB l n = true) : fsF l n = numF (castL (elems n)) := by unfold fsF; rw [h]; rfl
theorem elems_in (n i : Nat) (h : i < (castL (elems n)).length) : -1 ≤ nth (castL (elems n)) i ∧ nth (castL (elems n)) i < 1000000000000 := by
  rw [castL_len] at h
  have e : nth (castL (elems n)) i = ((elems n)[i] : Int) := by simp [nth, castL, List.getD, h]
  have := elems_lt (List.getElem_mem h)
  rw [e]; omega
--%call FormatSet 68 ext FormatSet_any _ _ _ _ ({0})
theorem FormatSet_any (v : Value) (l : List Int) (a : Int) (w : World) (h : Ints w v l) :
    Calls Tryz.prog 68 #[.agg #[v], .int .i64 a] w fun e w' => e = .returned (.string (fsF l a)) ∧ Ext w w' := by
  have hE0 := (Ext.refl w).alloc (.cells #[v] 27)
  have hE := Ext.refl (w.alloc (.cells #[v] 27))
  have hb := box_cell w v 27
  have hg : ∀ W, Ext (w.alloc (.cells #[v] 27)) W → Ints W v l := fun W hW => h.ext (hE0.trans hW)
  clear h
  cases hs : isSetB l a
  · have He := Lib.hid (fsF_no hs)
    go_enter Tryz.func68, Tryz.ntmps68
    go_wp2_with (first | (go_at_call 152; refine (IsSet_any _ _ _ _ (hg _ hE)).mono ?_; rintro e w' ⟨rfl, hE'⟩; replace hE := hE.trans hE'; clear hE'))
    go_ret
    exact ⟨ret_str He.out.symm, hE0.trans hE⟩
  · obtain ⟨n, rfl, -, hn, -⟩ := isSetB_nat hs
    have He := Lib.hid (fsF_nat hs)
    have hc := fun v W (hI : Ints W v (castL (elems n))) => numbers_any v (castL (elems n)) W hI (elems_in n) (by rw [castL_len]; have := elems_len n; omega)
    go_enter Tryz.func68, Tryz.ntmps68
    go_wp2_with (first | (go_at_call 152; refine (IsSet_any _ _ _ _ (hg _ hE)).mono ?_; rintro e w' ⟨rfl, hE'⟩; replace hE := hE.trans hE'; clear hE') | (go_at_call 153; refine (members_any _ (hn) _).mono ?_; rintro e w1 ⟨v1, rfl, hL, hE1⟩; obtain ⟨aoL, cL, adrL, rfl, hadrL, hcellL⟩ := hL.ints.nats; have hixL := ints_index (c := cL) elI szI hadrL; clear hadrL) | (go_at_call 72; refine (hc _ _ hL.ints).mono ?_; rintro e w2 ⟨rfl, hE2⟩))
    go_ret
    exact ⟨ret_str He.out.symm, ((hE0.trans hE).trans hE1).trans hE2⟩
end Go.Zz

/- ListOf of both. -/
namespace Go.Zz
open Go.RowKit Go.Proofs
set_option maxHeartbeats 400000
set_option maxRecDepth 4000

def loF (l : List Int) (a : Int) : List Int := if isSetB l a then castL (elems a.toNat) else []
theorem loF_no {l : List Int} {a : Int} (h : isSetB l a = false) : loF l a = [] := by unfold loF; rw [h]; rfl
theorem loF_nat {l : List Int} {n : Nat} (h : isSetB l n = true) : loF l n = castL (elems n) := by unfold loF; rw [h]; rfl
theorem sListOf_any (v : Value) (l : List Int) (a : Int) (w : World) (h : Ints w v l) :
    Calls Tryz.prog 142 #[.agg #[v], .int .i64 a] w fun e w' => ∃ u, e = .returned u ∧ Own 3 w w' u (loF l a) ∧ Ext w w' := by
  have hE0 := (Ext.refl w).alloc (.cells #[v] 27)
  have hE := Ext.refl (w.alloc (.cells #[v] 27))
  have hb := box_cell w v 27
  have hg : ∀ W, Ext (w.alloc (.cells #[v] 27)) W → Ints W v l := fun W hW => h.ext (hE0.trans hW)
  clear h
  cases hs : isSetB l a
  · have He := Lib.hid (loF_no hs)
    go_enter Tryz.func142, Tryz.ntmps142
    go_wp2_with (first | (go_at_call 126; refine (sIsSet_any _ _ _ _ (hg _ hE)).mono ?_; rintro e w' ⟨rfl, hE'⟩; replace hE := hE.trans hE'; clear hE'))
    go_ret
    have hE2 := hE0.trans hE
    exact ⟨_, rfl, by rw [He.out]; exact own_made (TI := 3) (n := 0) (by omega) hE2 [] rfl, hE2.alloc _⟩
  · obtain ⟨n, rfl, -, hn, -⟩ := isSetB_nat hs
    have He := Lib.hid (loF_nat hs)
    go_enter Tryz.func142, Tryz.ntmps142
    go_wp2_with (first | (go_at_call 126; refine (sIsSet_any _ _ _ _ (hg _ hE)).mono ?_; rintro e w' ⟨rfl, hE'⟩; replace hE := hE.trans hE'; clear hE') | (go_at_call 108; refine (l3List_any _ (hn) _).mono ?_; rintro e w1 ⟨v1, rfl, hL, hE1⟩; obtain ⟨aoL, cL, adrL, rfl, hadrL, hcellL⟩ := hL.ints.nats; have hixL := ints_index (c := cL) elI szI hadrL; clear hadrL))
    go_ret
    have hE2 := hE0.trans hE
    exact ⟨_, rfl, by rw [He.out]; simpa [castL_len] using hL.mono hE2, hE2.trans hE1⟩
theorem ListOf_any (v : Value) (l : List Int) (a : Int) (w : World) (h : Ints w v l) :
    Calls Tryz.prog 106 #[.agg #[v], .int .i64 a] w fun e w' => ∃ u, e = .returned u ∧ Own 3 w w' u (loF l a) ∧ Ext w w' := by
  have hE0 := (Ext.refl w).alloc (.cells #[v] 27)
  have hE := Ext.refl (w.alloc (.cells #[v] 27))
  have hb := box_cell w v 27
  have hg : ∀ W, Ext (w.alloc (.cells #[v] 27)) W → Ints W v l := fun W hW => h.ext (hE0.trans hW)
  clear h
  cases hs : isSetB l a
  · have He := Lib.hid (loF_no hs)
    go_enter Tryz.func106, Tryz.ntmps106
    go_wp2_with (first | (go_at_call 152; refine (IsSet_any _ _ _ _ (hg _ hE)).mono ?_; rintro e w' ⟨rfl, hE'⟩; replace hE := hE.trans hE'; clear hE'))
    go_ret
    have hE2 := hE0.trans hE
    exact ⟨_, rfl, by rw [He.out]; exact own_made (TI := 3) (n := 0) (by omega) hE2 [] rfl, hE2.alloc _⟩
  · obtain ⟨n, rfl, -, hn, -⟩ := isSetB_nat hs
    have He := Lib.hid (loF_nat hs)
    go_enter Tryz.func106, Tryz.ntmps106
    go_wp2_with (first | (go_at_call 152; refine (IsSet_any _ _ _ _ (hg _ hE)).mono ?_; rintro e w' ⟨rfl, hE'⟩; replace hE := hE.trans hE'; clear hE') | (go_at_call 153; refine (members_any _ (hn) _).mono ?_; rintro e w1 ⟨v1, rfl, hL, hE1⟩; obtain ⟨aoL, cL, adrL, rfl, hadrL, hcellL⟩ := hL.ints.nats; have hixL := ints_index (c := cL) elI szI hadrL; clear hadrL))
    go_ret
    have hE2 := hE0.trans hE
    exact ⟨_, rfl, by rw [He.out]; simpa [castL_len] using hL.mono hE2, hE2.trans hE1⟩
end Go.Zz

/- ListOf and FormatSet of the reference. -/
namespace Go.Zz
open Go.RowKit Go.Proofs
set_option maxHeartbeats 400000
set_option maxRecDepth 4000

theorem loF_in (l : List Int) (a : Int) (i : Nat) (h : i < (loF l a).length) : -1 ≤ nth (loF l a) i ∧ nth (loF l a) i < 1000000000000 := by
  cases hs : isSetB l a
  · rw [loF_no hs] at h; simp at h
  · obtain ⟨n, rfl, -, hn, -⟩ := isSetB_nat hs
    rw [loF_nat hs] at h ⊢
    exact elems_in n i h
theorem loF_len (l : List Int) (a : Int) : (loF l a).length ≤ 24 := by
  unfold loF
  split
  · rw [castL_len]; exact elems_len _
  · simp
theorem fsF_lo (l : List Int) (a : Int) : fsF l a = if (loF l a).length = 0 then (if isSetB l a then ⟨#[110, 111, 110, 101]⟩ else ⟨#[]⟩) else jn comma (fun i => fmtB (nth (loF l a) i)) (loF l a).length := by
  cases hs : isSetB l a
  · rw [fsF_no hs, loF_no hs]; rfl
  · unfold fsF loF
    rw [hs]
    show numF _ = _
    unfold numF
    rfl
theorem sFormatSet_any (v : Value) (l : List Int) (a : Int) (w : World) (h : Ints w v l) :
    Calls Tryz.prog 54 #[.agg #[v], .int .i64 a] w fun e w' => e = .returned (.string (fsF l a)) ∧ Ext w w' := by
  have hE0 := (Ext.refl w).alloc (.cells #[v] 27)
  have hE := Ext.refl (w.alloc (.cells #[v] 27))
  have hb := box_cell w v 27
  have hg : ∀ W, Ext (w.alloc (.cells #[v] 27)) W → Ints W v l := fun W hW => h.ext (hE0.trans hW)
  clear h
  have hin := loF_in l a
  have hlen := loF_len l a
  have Hf := Lib.hid (fsF_lo l a)
  have Hin := Lib.hid hin
  clear hin
  have hc := fun W (hI : Ints W v l) => sListOf_any v l a W hI
  go_enter Tryz.func54, Tryz.ntmps54
  go_wp2_with (go_at_call 142; refine (hc _ (hg _ hE)).mono ?_; rintro e w1 ⟨u, rfl, hO, hE1⟩; obtain ⟨aoL, cL, adrL, rfl, hlenL, hadrL, hcellL⟩ := hO.ints.op; have hixL := ints_index (c := cL) elI szI hadrL)
  clear hadrL hO
  obtain ⟨m, hm⟩ : ∃ m, m = loF l a := ⟨_, rfl⟩
  rw [← hm] at hlen hlenL hcellL hixL Hf Hin ⊢
  clear hm
  go_loopw [5, 7] (fun s i wr => ∃ (k : Nat) (t : ByteArray), k ≤ m.length ∧ i = .int .i64 k ∧ s = .string t ∧ Hid (t = jn comma (fun i => fmtB (nth m i)) k) ∧ Ext w1 wr) (fun _ i _ => m.length - (intOf i).toNat)
  case atStart => exact ⟨0, _, by omega, rfl, rfl, Lib.hid rfl, Ext.refl _⟩
  case round =>
    obtain ⟨k, t, hk, rfl, rfl, Ht, hEr⟩ := hrel
    have hts : t.size ≤ 14 * k := by rw [Ht.out]; exact jn_size _ _ (by decide) k fun i hi => fmtB_size (Hin.out i (by omega))
    by_cases hlt : k < m.length
    · have hck := hcellL k _ hlt hEr
      have hcF := sFormatInt_any (nth m k) (Hin.out k hlt)
      have hsz : (fmtB (nth m k)).size ≤ 13 := fmtB_size (Hin.out k hlt)
      obtain ⟨u, hu⟩ : ∃ u, u = fmtB (nth m k) := ⟨_, rfl⟩
      rw [← hu] at hsz hcF
      have He := Lib.hid hu
      clear hu
      by_cases hk0 : 0 < k
      · have hk1 : (0:Int) < k := by omega
        go_wp2_with (refine (hcF _).mono ?_; rintro e w2 ⟨rfl, hE2⟩)
        go_roundw
        case rel => exact ⟨k + 1, _, by omega, by go_num, rfl, Lib.hid (by rw [jn_next _ _ hk0, ← Ht.out, He.out]; rfl), hEr.trans hE2⟩
        case measure => (simp [intOf]; omega)
      · have hk1 : k = 0 := by omega
        subst hk1
        have hix0 : ∀ W, (Instr.indexAt 22 (.slice aoL m.length cL) (.int .i64 0)).run Tryz.prog W = .ok (.pointer (some (adrL 0))) W := fun W => by simpa using hixL 0 W hlt
        go_wp2_with (refine (hcF _).mono ?_; rintro e w2 ⟨rfl, hE2⟩)
        go_roundw
        case rel => exact ⟨1, _, by omega, rfl, rfl, Lib.hid (by rw [jn_first, He.out, Ht.out]; rfl), hEr.trans hE2⟩
        case measure => (simp [intOf]; omega)
    · have hkl : k = m.length := by omega
      subst hkl
      have hER := (hE0.trans hE1).trans hEr
      have hEb := hE1.trans hEr
      by_cases h0 : m.length = 0
      · have ht0 : t = ⟨#[]⟩ := by rw [Ht.out, h0]; rfl
        subst ht0
        have Hf2 : Hid (fsF l a = if isSetB l a then ⟨#[110, 111, 110, 101]⟩ else ⟨#[]⟩) := Lib.hid (by rw [Hf.out, if_pos h0])
        have hcS := sIsSet_any v l a _ (hg _ hEb)
        clear h0 hts Hf
        cases hs : isSetB l a
        all_goals
          rw [hs] at Hf2 hcS
          go_wp2_with (refine hcS.mono ?_; rintro e w3 ⟨rfl, hE3⟩)
          go_ret
          exact ⟨ret_str Hf2.out.symm, hER.trans hE3⟩
      · have He : Hid (fsF l a = t) := Lib.hid (by rw [Hf.out, if_neg h0, Ht.out])
        have h1 := jn_some comma (fun i => fmtB (nth m i)) m.length (by omega) fun i hi => fmtB_some (Hin.out i hi)
        rw [← Ht.out] at h1
        have ht1 := str_some h1
        go_wp2_with fail
        go_ret
        exact ⟨ret_str He.out.symm, hER⟩
end Go.Zz

/- FormatSequence of the reference. -/
namespace Go.Zz
open Go.RowKit Go.Proofs
set_option maxHeartbeats 1000000
set_option maxRecDepth 4000

theorem nthS_app (L : List ByteArray) (p : ByteArray) {i : Nat} (hi : i < L.length) : nthS (L ++ [p]) i = nthS L i := by
  simp [nthS, List.getD, List.getElem?_append_left hi]
theorem nthS_last (L : List ByteArray) (p : ByteArray) : nthS (L ++ [p]) L.length = p := by simp [nthS, List.getD]
theorem jn_add (s : ByteArray) (L : List ByteArray) (p : ByteArray) (h : 0 < L.length) : jn s (nthS (L ++ [p])) (L ++ [p]).length = (jn s (nthS L) L.length ++ s) ++ p := by
  rw [List.length_append, List.length_singleton, jn_next _ _ h, nthS_last, jn_congr s _ (nthS L) L.length fun i hi => nthS_app L p hi]
theorem jn_one (s : ByteArray) (L : List ByteArray) (p : ByteArray) (h : L.length = 0) : jn s (nthS (L ++ [p])) (L ++ [p]).length = jn s (nthS L) L.length ++ p := by
  have hL : L = [] := List.eq_nil_of_length_eq_zero h
  subst hL; rfl
theorem fqL_pos {X : List Nat} : ∀ k, 0 < k → 0 < (fqL X k).length
  | 0, h => by omega
  | k + 1, _ => by
    unfold fqL
    split
    · next h => exact fqL_pos k h.1
    · simp
theorem pcB_some {X : List Nat} (h24 : ∀ x ∈ X, x < 24) {i : Nat} (hi : i < X.length) : 1 ≤ (pcB X i).size := by
  have h1 := h24 _ (nthN_mem hi)
  have h2 := fmtB_some (n := (nthN X i : Int)) (by omega)
  unfold pcB
  split
  · rw [ByteArray.size_append, ByteArray.size_append]; omega
  · exact h2
theorem fqL_some {X : List Nat} (h24 : ∀ x ∈ X, x < 24) : ∀ k, k ≤ X.length → ∀ b ∈ fqL X k, 1 ≤ b.size
  | 0, _, b, hb => by cases hb
  | k + 1, hk, b, hb => by
    have ih := fqL_some h24 k (by omega)
    unfold fqL at hb
    split at hb
    · exact ih b hb
    · rw [List.mem_append, List.mem_singleton] at hb
      rcases hb with hb | rfl
      · exact ih b hb
      · exact pcB_some h24 (by omega)
theorem nthS_mem {L : List ByteArray} {i : Nat} (h : i < L.length) : nthS L i ∈ L := by
  have : nthS L i = L[i] := by simp [nthS, List.getD, h]
  rw [this]; exact List.getElem_mem h
theorem sFormatSequence_any (v u : Value) (l xs : List Int) (w : World) (h : Ints w v l) (hu : Ints w u xs) :
    Calls Tryz.prog 51 #[.agg #[v], u] w fun e w' => e = .returned (.string (fqF l xs)) ∧ Ext w w' := by
  obtain ⟨wb, hwb⟩ : ∃ wb, wb = w.alloc (.cells #[v] 27) := ⟨_, rfl⟩
  have hE0 := (Ext.refl w).alloc (.cells #[v] 27)
  have hb := box_cell w v 27
  rw [← hwb] at hE0 hb
  have hg : ∀ W, Ext wb W → Ints W v l := fun W hW => h.ext (hE0.trans hW)
  have hE := Ext.refl wb
  have Hsz : Hid (w.heap.size + 1 = wb.heap.size) := Lib.hid (by rw [hwb]; simp [go_sem])
  have Hwb := Lib.hid hwb
  clear hwb h
  have HU := Lib.hid (fun W (hW : Ext wb W) => hu.ext (hE0.trans hW))
  cases hs : seqB l xs
  · have Hs := Lib.hid (fqF_no hs)
    have cS := fun W (hW : Ext wb W) => sIsSequence_val v u l xs W (hg _ hW) (HU.out _ hW) hs
    have hb0 := hb wb hE
    obtain ⟨ao, c, adr, rfl, hlen, -, -⟩ := hu.op
    clear hs hu
    go_enter Tryz.func51, Tryz.ntmps51
    go_wp2_with fail
    rw [← Hwb.out]
    go_loopw [5, 6] (fun sv iv wr => sv = .string ⟨#[]⟩ ∧ iv = .int .i64 0 ∧ Ext wb wr) (fun _ _ _ => 0)
    case atStart => exact ⟨rfl, rfl, hE⟩
    case round =>
      obtain ⟨rfl, rfl, hEr⟩ := hrel
      have hemp : (⟨#[]⟩ : ByteArray).toList.isEmpty = true := by rw [ByteArray.toList_eq]; rfl
      have hbr := hb _ hEr
      by_cases hq : (0 : Int) < (xs.length : Int)
      ·
        have hEs := hEr
        clear hEr
        go_wp2_with (go_at_call 21; refine (cS _ hEs).mono ?_; rintro e' w' ⟨rfl, hE'⟩; replace hEs := hEs.trans hE'; clear hE')
        go_ret
        exact ⟨ret_str Hs.out.symm, hE0.trans hEs⟩
      ·
        have hEs := hEr
        clear hEr
        go_wp2_with (go_at_call 21; refine (cS _ hEs).mono ?_; rintro e' w' ⟨rfl, hE'⟩; replace hEs := hEs.trans hE'; clear hE')
        go_ret
        exact ⟨ret_str Hs.out.symm, hE0.trans hEs⟩
  have cS := fun W (hW : Ext wb W) => sIsSequence_val v u l xs W (hg _ hW) (HU.out _ hW) hs
  obtain ⟨X, rfl, -, hX12, hgr, hX⟩ := seqB_nat hs
  have hu2 := hu.ext hE0
  obtain ⟨ao, c, adr, rfl, hadr, hcell⟩ := hu2.nats
  have hix := ints_index (c := c) elI szI hadr
  have HcX := Lib.hid hcell
  have HX := Lib.hid hX
  have Hhs := Lib.hid hs
  have Hsz := Lib.hid (fqL_size (X := X) (by omega) hX)
  have Hso := Lib.hid (fqL_some (X := X) hX)
  clear hadr hcell hs hgr hu hX
  go_enter Tryz.func51, Tryz.ntmps51
  go_wp2_with fail
  rw [← Hwb.out]
  go_loopw [5, 6] (fun sv iv wr => ∃ (k : Nat) (st : ByteArray), k ≤ X.length ∧ iv = .int .i64 k ∧ sv = .string st ∧ Hid (st = jn sp1 (nthS (fqL X k)) (fqL X k).length) ∧ Ext wb wr) (fun _ iv _ => X.length - (intOf iv).toNat)
  case atStart => exact ⟨0, _, by omega, rfl, rfl, Lib.hid rfl, hE⟩
  case round =>
    clear hE
    obtain ⟨k, st, hk, rfl, rfl, Hst, hEr⟩ := hrel
    have hbr := hb _ hEr
    have hfl := fqL_len X k
    have hstS : st.size ≤ 60012 := by
      rw [Hst.out]
      have := jn_size2 sp1 (nthS (fqL X k)) (by decide) (fqL X k).length (fun i hi => by have := Hsz.out k hk _ (nthS_mem hi); omega)
      omega
    by_cases hlt : k < X.length
    · have hx24 := HX.out _ (nthN_mem hlt)
      have hck := HcX.out k wr hlt hEr
      obtain ⟨x, hx⟩ : ∃ x, x = nthN X k := ⟨_, rfl⟩
      have Hx := Lib.hid hx
      rw [← hx] at hck hx24
      have cI := fun W => sFormatInt_any (x : Int) (by omega) W
      have cM := fun W (hW : Ext wb W) => sMultiplicityIn_any (.slice ao X.length c) (castL X) (x : Int) W (HU.out _ hW)
      have hmi := mul_in (X := X) (by omega) (x : Int)
      obtain ⟨M, hM⟩ : ∃ M, M = mulI (castL X) (x : Int) := ⟨_, rfl⟩
      rw [← hM] at cM hmi
      have cJ := fun W => sFormatInt_any (M : Int) hmi W
      have hs1 := fmtB_size (n := (x : Int)) (by omega)
      have hs2 := fmtB_size hmi
      by_cases hk0 : 0 < k
      · have hkI : (0 : Int) < (k : Int) := by omega
        have hL1 := fqL_pos (X := X) k hk0
        have hemp : st.toList.isEmpty = false := by
          rw [Hst.out]; exact str_some (jn_some _ _ _ hL1 fun i hi => Hso.out k hk _ (nthS_mem hi))
        have ix1 : ∀ W, (Instr.indexAt 22 (.slice ao X.length c) (.int .i64 ((k : Int) - 1))).run Tryz.prog W = .ok (.pointer (some (adr (k - 1)))) W := fun W => by rw [show ((k : Int) - 1) = ((k - 1 : Nat) : Int) by omega]; exact hix _ W (by omega)
        by_cases hsame : 0 < k ∧ nthN X (k - 1) = nthN X k
        · have Hn := Lib.hid (fqL_same hsame.1 hsame.2)
          have Hq := Lib.hid hsame.2
          clear hsame hx hM
          go_wp2_with (go_at_call 21; refine (cS _ hEr).mono ?_; rintro e2 w2 ⟨rfl, hE2⟩)
          have hE2b := hEr.trans hE2
          have hE := Ext.refl w2
          have hcq := fun U => HcX.out k _ hlt (hE2b.trans (lat_ext w2 U))
          have hcq1 := fun U => HcX.out (k - 1) _ (by omega) (hE2b.trans (lat_ext w2 U))
          rw [Hq.out] at hcq1
          (refine wp_region_lat (w2) (by kernel_rfl) (by kernel_rfl) hE ?_); (repeat (go_big_quiet_step (first | (fail "no call")))); (refine wpQuiet_nil ?_); (intro W hE'); (replace hE := lat_of hE'); (clear hE')
          go_wp2_with fail
          go_roundw
          case rel => exact ⟨k + 1, st, by omega, by go_num, rfl, by rw [Hn.out]; exact Hst, hE2b.trans hE⟩
          case measure => (simp [intOf]; omega)
        · have hne : ((x : Int) == ((nthN X (k - 1) : Nat) : Int)) = false := by
            rw [beq_eq_false_iff_ne, hx]; intro e; exact hsame ⟨hk0, by omega⟩
          have Hn := Lib.hid (fqL_new hsame)
          by_cases hgt : 1 < M
          · have hgI : (1 : Int) < (M : Int) := by omega
            have Hp : Hid (pcB X k = (fmtB (x : Int) ++ (⟨#[94]⟩ : ByteArray)) ++ fmtB (M : Int)) := Lib.hid (by unfold pcB; rw [← hx, ← hM, if_pos hgt])
            have Hst2 : Hid (((((st ++ (⟨#[32]⟩ : ByteArray)) ++ fmtB (x : Int)) ++ (⟨#[94]⟩ : ByteArray)) ++ fmtB (M : Int)) = jn sp1 (nthS (fqL X (k + 1))) (fqL X (k + 1)).length) := Lib.hid (by
              rw [Hn.out, Hp.out, jn_add _ _ _ hL1, ← Hst.out]
              simp only [ByteArray.append_assoc]
              rfl)
            clear hx hM hsame hgt Hp Hn
            go_wp2_with (go_at_call 21; refine (cS _ hEr).mono ?_; rintro e2 w2 ⟨rfl, hE2⟩)
            have hE2b := hEr.trans hE2
            have hE := Ext.refl w2
            have hcq := fun U => HcX.out k _ hlt (hE2b.trans (lat_ext w2 U))
            have hcq1 := fun U => HcX.out (k - 1) _ (by omega) (hE2b.trans (lat_ext w2 U))
            rw [← Hx.out] at hcq
            (refine wp_region_lat (w2) (by kernel_rfl) (by kernel_rfl) hE ?_); (repeat (go_big_quiet_step (first | (fail "no call")))); (refine wpQuiet_nil ?_); (intro W hE'); (replace hE := lat_of hE'); (clear hE')
            have hEw := hE2b.trans hE
            have hcW := HcX.out k _ hlt hEw
            rw [← Hx.out] at hcW
            go_wp2_with (first | (go_at_call 52; with_reducible refine (cI _).mono ?_; rintro e3 w3 ⟨rfl, hE3⟩; have hE3b := hEw.trans hE3; have hcV := HcX.out k _ hlt hE3b; rw [← Hx.out] at hcV) | (go_at_call 140; refine (cM _ hE3b).mono ?_; rintro e' w' ⟨rfl, rfl⟩) | (go_at_call 52; with_reducible refine (cJ _).mono ?_; rintro e4 w4 ⟨rfl, hE4⟩; have hE4b := hE3b.trans hE4))
            go_roundw
            case rel => exact ⟨k + 1, _, by omega, by go_num, rfl, Hst2, hE4b⟩
            case measure => (simp [intOf]; omega)
          · have hgI : ¬ (1 : Int) < (M : Int) := by omega
            have Hp : Hid (pcB X k = fmtB (x : Int)) := Lib.hid (by unfold pcB; rw [← hx, ← hM, if_neg hgt])
            have Hst2 : Hid (((st ++ (⟨#[32]⟩ : ByteArray)) ++ fmtB (x : Int)) = jn sp1 (nthS (fqL X (k + 1))) (fqL X (k + 1)).length) := Lib.hid (by
              rw [Hn.out, Hp.out, jn_add _ _ _ hL1, ← Hst.out]
              rfl)
            clear hx hM hsame hgt Hp Hn
            go_wp2_with (go_at_call 21; refine (cS _ hEr).mono ?_; rintro e2 w2 ⟨rfl, hE2⟩)
            have hE2b := hEr.trans hE2
            have hE := Ext.refl w2
            have hcq := fun U => HcX.out k _ hlt (hE2b.trans (lat_ext w2 U))
            have hcq1 := fun U => HcX.out (k - 1) _ (by omega) (hE2b.trans (lat_ext w2 U))
            rw [← Hx.out] at hcq
            (refine wp_region_lat (w2) (by kernel_rfl) (by kernel_rfl) hE ?_); (repeat (go_big_quiet_step (first | (fail "no call")))); (refine wpQuiet_nil ?_); (intro W hE'); (replace hE := lat_of hE'); (clear hE')
            have hEw := hE2b.trans hE
            have hcW := HcX.out k _ hlt hEw
            rw [← Hx.out] at hcW
            go_wp2_with (first | (go_at_call 52; with_reducible refine (cI _).mono ?_; rintro e3 w3 ⟨rfl, hE3⟩; have hE3b := hEw.trans hE3; have hcV := HcX.out k _ hlt hE3b; rw [← Hx.out] at hcV) | (go_at_call 140; refine (cM _ hE3b).mono ?_; rintro e' w' ⟨rfl, rfl⟩) | (go_at_call 52; with_reducible refine (cJ _).mono ?_; rintro e4 w4 ⟨rfl, hE4⟩; have hE4b := hE3b.trans hE4))
            go_roundw
            case rel => exact ⟨k + 1, _, by omega, by go_num, rfl, Hst2, hE3b⟩
            case measure => (simp [intOf]; omega)
      · have hkI : ¬ (0 : Int) < (k : Int) := by omega
        have hkz : k = 0 := by omega
        have hL0 : (fqL X k).length = 0 := by rw [hkz]; rfl
        have hemp : st.toList.isEmpty = true := by
          rw [Hst.out, hkz, ByteArray.toList_eq]; rfl
        have hsame : ¬ (0 < k ∧ nthN X (k - 1) = nthN X k) := fun e => hk0 e.1
        clear hkz
        have Hn := Lib.hid (fqL_new hsame)
        by_cases hgt : 1 < M
        · have hgI : (1 : Int) < (M : Int) := by omega
          have Hp : Hid (pcB X k = (fmtB (x : Int) ++ (⟨#[94]⟩ : ByteArray)) ++ fmtB (M : Int)) := Lib.hid (by unfold pcB; rw [← hx, ← hM, if_pos hgt])
          have Hst2 : Hid ((((st ++ fmtB (x : Int)) ++ (⟨#[94]⟩ : ByteArray)) ++ fmtB (M : Int)) = jn sp1 (nthS (fqL X (k + 1))) (fqL X (k + 1)).length) := Lib.hid (by
            rw [Hn.out, Hp.out, jn_one _ _ _ hL0, ← Hst.out]
            simp only [ByteArray.append_assoc])
          clear hx hM hsame hgt Hp Hn
          go_wp2_with (go_at_call 21; refine (cS _ hEr).mono ?_; rintro e2 w2 ⟨rfl, hE2⟩)
          have hE2b := hEr.trans hE2
          have hE := Ext.refl w2
          have hcq := fun U => HcX.out k _ hlt (hE2b.trans (lat_ext w2 U))
          rw [← Hx.out] at hcq
          (refine wp_region_lat (w2) (by kernel_rfl) (by kernel_rfl) hE ?_); (repeat (go_big_quiet_step (first | (fail "no call")))); (refine wpQuiet_nil ?_); (intro W hE'); (replace hE := lat_of hE'); (clear hE')
          have hEw := hE2b.trans hE
          have hcW := HcX.out k _ hlt hEw
          rw [← Hx.out] at hcW
          go_wp2_with (first | (go_at_call 52; with_reducible refine (cI _).mono ?_; rintro e3 w3 ⟨rfl, hE3⟩; have hE3b := hEw.trans hE3; have hcV := HcX.out k _ hlt hE3b; rw [← Hx.out] at hcV) | (go_at_call 140; refine (cM _ hE3b).mono ?_; rintro e' w' ⟨rfl, rfl⟩) | (go_at_call 52; with_reducible refine (cJ _).mono ?_; rintro e4 w4 ⟨rfl, hE4⟩; have hE4b := hE3b.trans hE4))
          go_roundw
          case rel => exact ⟨k + 1, _, by omega, by go_num, rfl, Hst2, hE4b⟩
          case measure => (simp [intOf]; omega)
        · have hgI : ¬ (1 : Int) < (M : Int) := by omega
          have Hp : Hid (pcB X k = fmtB (x : Int)) := Lib.hid (by unfold pcB; rw [← hx, ← hM, if_neg hgt])
          have Hst2 : Hid ((st ++ fmtB (x : Int)) = jn sp1 (nthS (fqL X (k + 1))) (fqL X (k + 1)).length) := Lib.hid (by
            rw [Hn.out, Hp.out, jn_one _ _ _ hL0, ← Hst.out])
          clear hx hM hsame hgt Hp Hn
          go_wp2_with (go_at_call 21; refine (cS _ hEr).mono ?_; rintro e2 w2 ⟨rfl, hE2⟩)
          have hE2b := hEr.trans hE2
          have hE := Ext.refl w2
          have hcq := fun U => HcX.out k _ hlt (hE2b.trans (lat_ext w2 U))
          rw [← Hx.out] at hcq
          (refine wp_region_lat (w2) (by kernel_rfl) (by kernel_rfl) hE ?_); (repeat (go_big_quiet_step (first | (fail "no call")))); (refine wpQuiet_nil ?_); (intro W hE'); (replace hE := lat_of hE'); (clear hE')
          have hEw := hE2b.trans hE
          have hcW := HcX.out k _ hlt hEw
          rw [← Hx.out] at hcW
          go_wp2_with (first | (go_at_call 52; with_reducible refine (cI _).mono ?_; rintro e3 w3 ⟨rfl, hE3⟩; have hE3b := hEw.trans hE3; have hcV := HcX.out k _ hlt hE3b; rw [← Hx.out] at hcV) | (go_at_call 140; refine (cM _ hE3b).mono ?_; rintro e' w' ⟨rfl, rfl⟩) | (go_at_call 52; with_reducible refine (cJ _).mono ?_; rintro e4 w4 ⟨rfl, hE4⟩; have hE4b := hE3b.trans hE4))
          go_roundw
          case rel => exact ⟨k + 1, _, by omega, by go_num, rfl, Hst2, hE3b⟩
          case measure => (simp [intOf]; omega)
    · have hkl : k = X.length := by omega
      have hkI : ¬ (k : Int) < (X.length : Int) := by omega
      by_cases h0 : X.length = 0
      · have hemp : st.toList.isEmpty = true := by
          rw [Hst.out, hkl, h0, ByteArray.toList_eq]; rfl
        have Hv : Hid (fqF l (castL X) = ⟨#[110, 111, 110, 101]⟩) := Lib.hid (fqF_none Hhs.out (by rw [castL_len]; exact h0))
        clear hkl h0 hfl
        go_wp2_with (go_at_call 21; refine (cS _ hEr).mono ?_; rintro e2 w2 ⟨rfl, hE2⟩)
        go_ret
        exact ⟨ret_str Hv.out.symm, hE0.trans (hEr.trans hE2)⟩
      · have hemp : st.toList.isEmpty = false := by
          rw [Hst.out]; exact str_some (jn_some _ _ _ (fqL_pos (X := X) k (by omega)) fun i hi => Hso.out k hk _ (nthS_mem hi))
        have Hv : Hid (fqF l (castL X) = st) := Lib.hid (by rw [fqF_yes Hhs.out h0, Hst.out, hkl])
        clear hkl h0 hfl
        go_wp2_with fail
        go_ret
        exact ⟨ret_str Hv.out.symm, hE0.trans hEr⟩
end Go.Zz
