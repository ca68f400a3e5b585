/- How the arguments of a law are read. -/
import Derived.Test.YtdlbbpeahicakaaGreatGr2
import Derived.Lib.SmallJoins
import Derived.SizedLaws
import Derived.Carry
namespace Go.Zz
open Go.ChangeShapes Go.WideShapes Go.ChangeAt Go.RowKit Go.Joins Go.Deep
section
variable {H : Type} {enc : TypeId × Value → H} {P : Program} {w : World} {held : Bool}
/-- a cell of a slice type of ints -/
theorem sl_cell {T TI : TypeId} {n : Nat} {v : Value} {y : DataW H × List MemPlace} (ht : P.underlying T = some (.slice TI)) (he : P.underlying TI = some (.int .i64)) (hc : P.cellsOf TI = 1) (hb : P.bytesOf TI = 8)
    (h : DataW.trod enc P w 0 (fun _ => true) held n T [v] = some y) (hw : ∀ k ∈ y.1.weights P T, k ≤ reachBytes) : ∃ l, Ints w v l := by
  rcases open_ints ht he hc h with ⟨hcs, _⟩ | ⟨a, len, cap, zs, hcs, _, hl, _, hz, hx, hcell, _⟩
  · simp at hcs; subst hcs; exact ⟨[], Ints.nil w⟩
  · simp at hcs hz
    subst hcs
    have hlen : (zs.take len).length = len := by simp; omega
    have hy : y.1 = .slice (lits .i64 (zs.take len)) (lits .i64 (zs.drop len)) := by rw [hx]
    have := hw (((lits (H := H) .i64 (zs.take len)).length + (lits (H := H) .i64 (zs.drop len)).length) * P.bytesOf TI) (by rw [hy]; simp [DataW.weights, ht])
    rw [hb] at this
    simp only [lits, List.length_map, List.length_take, List.length_drop, reachBytes] at this
    refine ⟨zs.take len, some a, cap, by rw [hlen], by omega, by omega, fun i hi => ⟨a, rfl, ?_⟩⟩
    rw [hcell i (by omega)]
    simp only [nth]
    rw [List.getD_eq_getElem?_getD, List.getD_eq_getElem?_getD, List.getElem?_take_of_lt (by omega)]
/-- a cell of type Group -/
theorem grp_cell {TG T TI : TypeId} {f : Field} {n : Nat} {v : Value} {y : DataW H × List MemPlace} (hs : P.underlying TG = some (.struct #[f])) (hone : oneCellFields P #[f] = true) (hft : f.type = T)
    (ht : P.underlying T = some (.slice TI)) (he : P.underlying TI = some (.int .i64)) (hc : P.cellsOf TI = 1) (hb : P.bytesOf TI = 8)
    (h : DataW.trod enc P w 0 (fun _ => true) held n TG [v] = some y) (hw : ∀ k ∈ y.1.weights P TG, k ≤ reachBytes) : ∃ l, Ints w v l := by
  obtain ⟨xs, m, _, hx, hl, hlen, hf⟩ := DataW.trod_struct hs h
  match xs, hlen with
  | [x0], _ =>
    obtain ⟨o0, k0⟩ := hone_of hone 0 f rfl
    have h0 := hf 0 f rfl
    rw [o0, k0, hft] at h0
    refine sl_cell ht he hc hb (by simpa using h0) fun k hk => hw k ?_
    rw [hx]
    simp [DataW.weights, hs, DataW.weightsEach, hft, hk]
/-- an argument of a slice type -/
theorem sl_arg {T TI : TypeId} {r : Reach} {b : Nat} {v : Value} {d : DataW H} {p : List MemPlace} (ht : P.underlying T = some (.slice TI)) (he : P.underlying TI = some (.int .i64)) (hc : P.cellsOf TI = 1) (hb : P.bytesOf TI = 8)
    (hv : Value.okWide P w r b T v) (h : DataW.Trod enc P w 0 (fun _ => true) held T v d p) (hw : ∀ k ∈ d.weights P T, k ≤ reachBytes) : ∃ l, Ints w v l := by
  obtain ⟨a, len, cap, rfl⟩ := okWide_slice ht hv
  obtain ⟨fuel, hf⟩ := h
  exact sl_cell ht he hc hb (by simpa [Value.cells] using hf) hw
/-- an argument of type Group -/
theorem grp_arg {TG T TI : TypeId} {f : Field} {r : Reach} {b : Nat} {v : Value} {d : DataW H} {p : List MemPlace} (hs : P.underlying TG = some (.struct #[f])) (hone : oneCellFields P #[f] = true) (hft : f.type = T) (hC : P.cellsOf TG = 1)
    (ht : P.underlying T = some (.slice TI)) (he : P.underlying TI = some (.int .i64)) (hc : P.cellsOf TI = 1) (hb : P.bytesOf TI = 8)
    (hv : Value.okWide P w r b TG v) (h : DataW.Trod enc P w 0 (fun _ => true) held TG v d p) (hw : ∀ k ∈ d.weights P TG, k ≤ reachBytes) : ∃ u l, v = .agg #[u] ∧ Ints w u l := by
  obtain ⟨cs, rfl, hsz⟩ := okWide_struct hs hv
  obtain ⟨fuel, hf⟩ := h
  obtain ⟨cl⟩ := cs
  match cl, hsz.trans hC with
  | [c0], _ =>
    obtain ⟨l, hl⟩ := grp_cell hs hone hft ht he hc hb (by simpa [Value.cells] using hf) hw
    exact ⟨c0, l, rfl, hl⟩
/-- an argument of type Kept -/
theorem kept_arg {TK TG T TI : TypeId} {f0 f1 f2 f : Field} {r : Reach} {b : Nat} {v : Value} {d : DataW H} {p : List MemPlace} (hs : P.underlying TK = some (.struct #[f0, f1, f2])) (hone : oneCellFields P #[f0, f1, f2] = true) (ht0 : f0.type = TG) (ht1 : f1.type = TI) (ht2 : f2.type = T) (hC : P.cellsOf TK = 3)
    (hg : P.underlying TG = some (.struct #[f])) (hgo : oneCellFields P #[f] = true) (hft : f.type = T)
    (ht : P.underlying T = some (.slice TI)) (he : P.underlying TI = some (.int .i64)) (hc : P.cellsOf TI = 1) (hb : P.bytesOf TI = 8)
    (hv : Value.okWide P w r b TK v) (h : DataW.Trod enc P w 0 (fun _ => true) held TK v d p) (hw : ∀ k ∈ d.weights P TK, k ≤ reachBytes) : ∃ u n t l m, v = .agg #[u, .int .i64 n, t] ∧ Ints w u l ∧ Ints w t m ∧ (Lit.int .i64 n).wf = true := by
  obtain ⟨cs, rfl, hsz⟩ := okWide_struct hs hv
  obtain ⟨fuel, hf⟩ := h
  obtain ⟨cl⟩ := cs
  match cl, hsz.trans hC with
  | [c0, c1, c2], _ =>
    obtain ⟨xs, q, _, hx, hl, hlen, hF⟩ := DataW.trod_struct hs hf
    match xs, hlen with
    | [x0, x1, x2], _ =>
      obtain ⟨o0, k0⟩ := hone_of hone 0 f0 rfl
      obtain ⟨o1, k1⟩ := hone_of hone 1 f1 rfl
      obtain ⟨o2, k2⟩ := hone_of hone 2 f2 rfl
      have h0 := hF 0 f0 rfl
      have h1 := hF 1 f1 rfl
      have h2 := hF 2 f2 rfl
      rw [o0, k0, ht0] at h0
      rw [o1, k1, ht1] at h1
      rw [o2, k2, ht2] at h2
      simp [Value.cells] at h0 h1 h2
      simp only [Prod.mk.injEq] at hx
      have hd := hx.1
      obtain ⟨l, hI⟩ := grp_cell hg hgo hft ht he hc hb h0 fun k hk => hw k (by rw [hd]; simp [DataW.weights, hs, DataW.weightsEach, ht0, hk])
      obtain ⟨m, hJ⟩ := sl_cell ht he hc hb h2 fun k hk => hw k (by rw [hd]; simp [DataW.weights, hs, DataW.weightsEach, ht2, hk])
      obtain ⟨n, hn, _, wn⟩ := DataW.trod_int he h1
      simp at hn
      subst hn
      exact ⟨c0, n, c2, l, m, rfl, hI, hJ, wn⟩
theorem wf_bounds {n : Int} (h : (Lit.int .i64 n).wf = true) : -9223372036854775808 ≤ n ∧ n ≤ 9223372036854775807 := by
  simpa [Lit.wf, IntKind.min, IntKind.max, IntKind.signed, IntKind.bits] using h
theorem weights_arg {ts : List TypeId} {ds : List (DataW H)} (h : (DataW.weightsEach P ts ds).all (· ≤ reachBytes) = true) {j : Nat} {t : TypeId} {d : DataW H} (ht : ts[j]? = some t) (hd : ds[j]? = some d) : ∀ k ∈ d.weights P t, k ≤ reachBytes := by
  intro k hk
  have := List.all_eq_true.1 h _ (DataW.weights_mem_each ht hd k hk)
  simpa using this
end
end Go.Zz
