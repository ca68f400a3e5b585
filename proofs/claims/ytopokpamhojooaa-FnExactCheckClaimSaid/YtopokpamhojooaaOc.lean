/- How an argument of type Claim is read. -/
import Derived.Test.YtopokpamhojooaaOp
namespace Go.Zz
open Go.ChangeShapes Go.WideShapes Go.ChangeAt Go.RowKit Go.Joins Go.Deep
section
variable {H : Type} {enc : TypeId × Value → H} {P : Program} {w : World} {held : Bool}
set_option maxHeartbeats 2000000
theorem claim_arg {TC TG T TI : TypeId} {f0 f1 f2 f3 f4 f5 f6 f7 f8 f9 f : Field} {r : Reach} {b : Nat} {v : Value} {d : DataW H} {p : List MemPlace} (hs : P.underlying TC = some (.struct #[f0, f1, f2, f3, f4, f5, f6, f7, f8, f9])) (hone : oneCellFields P #[f0, f1, f2, f3, f4, f5, f6, f7, f8, f9] = true)
    (ht0 : f0.type = TI) (ht1 : f1.type = TG) (ht2 : f2.type = TG) (ht3 : f3.type = TI) (ht4 : f4.type = TI) (ht5 : f5.type = TI) (ht6 : f6.type = TI) (ht7 : f7.type = T) (ht8 : f8.type = T) (ht9 : f9.type = TI) (hC : P.cellsOf TC = 10)
    (hg : P.underlying TG = some (.struct #[f])) (hgo : oneCellFields P #[f] = true) (hft : f.type = T)
    (ht : P.underlying T = some (.slice TI)) (he : P.underlying TI = some (.int .i64)) (hc : P.cellsOf TI = 1) (hb : P.bytesOf TI = 8)
    (hv : Value.okWide P w r b TC v) (h : DataW.Trod enc P w 0 (fun _ => true) held TC v d p) (hw : ∀ k ∈ d.weights P TC, k ≤ reachBytes) :
    ∃ (ck : Int) (c1 c2 : Value) (ca cb cs cp : Int) (c3 c4 : Value) (cn : Int) (lg lo lt lq : List Int), v = .agg #[.int .i64 ck, c1, c2, .int .i64 ca, .int .i64 cb, .int .i64 cs, .int .i64 cp, c3, c4, .int .i64 cn] ∧ Ints w c1 lg ∧ Ints w c2 lo ∧ Ints w c3 lt ∧ Ints w c4 lq := by
  obtain ⟨cs, rfl, hsz⟩ := okWide_struct hs hv
  obtain ⟨fuel, hf⟩ := h
  obtain ⟨cl⟩ := cs
  match cl, hsz.trans hC with
  | [c0, c1, c2, c3, c4, c5, c6, c7, c8, c9], _ =>
    obtain ⟨xs, q, _, hx, hl, hlen, hF⟩ := DataW.trod_struct hs hf
    match xs, hlen with
    | [x0, x1, x2, x3, x4, x5, x6, x7, x8, x9], _ =>
      obtain ⟨o0, k0⟩ := hone_of hone 0 f0 rfl
      obtain ⟨o1, k1⟩ := hone_of hone 1 f1 rfl
      obtain ⟨o2, k2⟩ := hone_of hone 2 f2 rfl
      obtain ⟨o3, k3⟩ := hone_of hone 3 f3 rfl
      obtain ⟨o4, k4⟩ := hone_of hone 4 f4 rfl
      obtain ⟨o5, k5⟩ := hone_of hone 5 f5 rfl
      obtain ⟨o6, k6⟩ := hone_of hone 6 f6 rfl
      obtain ⟨o7, k7⟩ := hone_of hone 7 f7 rfl
      obtain ⟨o8, k8⟩ := hone_of hone 8 f8 rfl
      obtain ⟨o9, k9⟩ := hone_of hone 9 f9 rfl
      have h0 := hF 0 f0 rfl
      have h1 := hF 1 f1 rfl
      have h2 := hF 2 f2 rfl
      have h3 := hF 3 f3 rfl
      have h4 := hF 4 f4 rfl
      have h5 := hF 5 f5 rfl
      have h6 := hF 6 f6 rfl
      have h7 := hF 7 f7 rfl
      have h8 := hF 8 f8 rfl
      have h9 := hF 9 f9 rfl
      rw [o0, k0, ht0] at h0
      rw [o1, k1, ht1] at h1
      rw [o2, k2, ht2] at h2
      rw [o3, k3, ht3] at h3
      rw [o4, k4, ht4] at h4
      rw [o5, k5, ht5] at h5
      rw [o6, k6, ht6] at h6
      rw [o7, k7, ht7] at h7
      rw [o8, k8, ht8] at h8
      rw [o9, k9, ht9] at h9
      simp [Value.cells] at h0 h1 h2 h3 h4 h5 h6 h7 h8 h9
      simp only [Prod.mk.injEq] at hx
      have hd := hx.1
      obtain ⟨lg, hI1⟩ := grp_cell hg hgo hft ht he hc hb h1 fun k hk => hw k (by rw [hd]; simp [DataW.weights, hs, DataW.weightsEach, ht1, hk])
      obtain ⟨lo, hI2⟩ := grp_cell hg hgo hft ht he hc hb h2 fun k hk => hw k (by rw [hd]; simp [DataW.weights, hs, DataW.weightsEach, ht2, hk])
      obtain ⟨lt, hI7⟩ := sl_cell ht he hc hb h7 fun k hk => hw k (by rw [hd]; simp [DataW.weights, hs, DataW.weightsEach, ht7, hk])
      obtain ⟨lq, hI8⟩ := sl_cell ht he hc hb h8 fun k hk => hw k (by rw [hd]; simp [DataW.weights, hs, DataW.weightsEach, ht8, hk])
      obtain ⟨n0, e0, _, _⟩ := DataW.trod_int he h0
      obtain ⟨n3, e3, _, _⟩ := DataW.trod_int he h3
      obtain ⟨n4, e4, _, _⟩ := DataW.trod_int he h4
      obtain ⟨n5, e5, _, _⟩ := DataW.trod_int he h5
      obtain ⟨n6, e6, _, _⟩ := DataW.trod_int he h6
      obtain ⟨n9, e9, _, _⟩ := DataW.trod_int he h9
      simp at e0 e3 e4 e5 e6 e9
      subst e0 e3 e4 e5 e6 e9
      exact ⟨n0, c1, c2, n3, n4, n5, n6, c7, c8, n9, lg, lo, lt, lq, rfl, hI1, hI2, hI7, hI8⟩
end
end Go.Zz
