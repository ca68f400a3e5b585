/- Regions that draw their order, walked by hand: an operation is taken first, be its guard on or off. -/
import Derived.Deep.RegionHeld3
import Derived.Test.YtpjpfpmapdjnaaaGr6
import Derived.Test.YtpjpfpmapdjnaaaGr1
namespace Go.Zz
open Go

theorem takeOn {P : Program} {ops : Array Oper} {Q : Exit → Act → World → Prop} {md : Region.Mode} {S : World → Prop} {i : Nat} {oi : Oper} {v : Value} {fuel : Nat} {listed : Array Bool} {a : Act} {w : World}
    (hr : (Region.ready md ops listed).contains i = true) (hi : ops[i]? = some oi) (hw : Region.wanted oi (yielded ops a.tmps) = true) (hf : Region.free md ops listed i = true) (hs : Region.noSelect ops = true)
    (hQ : ∀ c a w, Q (.panic c) (a.put oi.dst v) w → Q (.panic c) a w) (hy : ∀ w, S w → (execOp a.eval oi).run P w = .ok (.value v) w) (hS : S w)
    (h : wpAnyH P md ops Q S fuel (listed.setIfInBounds i true) (a.put oi.dst v) w) : wpAnyH P md ops Q S (fuel + 1) listed a w :=
  wpAnyH_take hi hs hf hr hQ (Or.inl ⟨hw, hy⟩) hS h
theorem takeOff {P : Program} {ops : Array Oper} {Q : Exit → Act → World → Prop} {md : Region.Mode} {S : World → Prop} {i : Nat} {oi : Oper} {fuel : Nat} {listed : Array Bool} {a : Act} {w : World}
    (hr : (Region.ready md ops listed).contains i = true) (hi : ops[i]? = some oi) (hw : Region.wanted oi (yielded ops a.tmps) = false) (hf : Region.free md ops listed i = true) (hs : Region.noSelect ops = true)
    (hQ : ∀ c a w, Q (.panic c) (a.put oi.dst undef) w → Q (.panic c) a w) (hS : S w)
    (h : wpAnyH P md ops Q S fuel (listed.setIfInBounds i true) (a.put oi.dst undef) w) : wpAnyH P md ops Q S (fuel + 1) listed a w :=
  wpAnyH_take hi hs hf hr hQ (Or.inr ⟨hw, rfl⟩) hS h
/-- one operation alone may come up -/
theorem takeOne {P : Program} {ops : Array Oper} {Q : Exit → Act → World → Prop} {md : Region.Mode} {S : World → Prop} {i : Nat} {oi : Oper} {fuel : Nat} {listed : Array Bool} {a : Act} {w : World}
    (hr : Region.ready md ops listed = [i]) (hi : ops[i]? = some oi) (hw : Region.wanted oi (yielded ops a.tmps) = true)
    (h : ∀ K' : Act → World → Prop, Shut (∀ a w, S w → (S w → wpAnyH P md ops Q S fuel (listed.setIfInBounds i true) a w) → K' a w) → Oper.wp P oi a w K' Q) : wpAnyH P md ops Q S (fuel + 1) listed a w :=
  wpAnyH_ready hr (by simp) (AllReadyH.cons hi (fun K hK => by rw [if_pos hw]; exact h K hK) AllReadyH.nil)
end Go.Zz

/- Davenport's bound: the program. -/
namespace Go.Zz
open Go.RowKit Go.Proofs
set_option maxHeartbeats 2000000
set_option maxRecDepth 8000

theorem castL_set (M : List Nat) (i x : Nat) : (castL M).set i (x : Int) = castL (M.set i x) := by unfold castL; rw [List.map_set]
/-- a row of numbers that is owned: shape, places -/
structure Dv (w0 : World) (ao : Option Addr) (n c : Nat) (M : List Nat) (W : World) : Prop where
  own : Own 3 w0 W (.slice ao n c) (castL M)
  len : M.length = n
  ext : Ext w0 W
theorem Dv.at {w0 W : World} {ao : Option Addr} {n c : Nat} {M : List Nat} (h : Dv w0 ao n c M W) {i : Nat} (hi : i < n) : ∃ g, ao = some ⟨g, 0, none⟩ := by
  obtain ⟨ao', c', hv, -, -, hs⟩ := h.own.shape
  obtain ⟨g, hg, -, -⟩ := hs i (by rw [castL_len, h.len]; exact hi)
  simp only [Value.slice.injEq] at hv
  exact ⟨g, hv.1.trans hg⟩
theorem Dv.cell {w0 W : World} {g n c : Nat} {M : List Nat} (h : Dv w0 (some ⟨g, 0, none⟩) n c M W) {i : Nat} (hi : i < n) : W.cell? ⟨g, i, none⟩ = some (.int .i64 (nthN M i)) ∧ W.frozen? ⟨g, i, none⟩ = false ∧ w0.heap.size ≤ g := by
  obtain ⟨ao', c', hv, -, hb, hs⟩ := h.own.shape
  obtain ⟨g', hg, hc, hf⟩ := hs i (by rw [castL_len, h.len]; exact hi)
  simp only [Value.slice.injEq] at hv
  have e := hv.1.trans hg
  simp only [Option.some.injEq, Addr.mk.injEq, and_true] at e
  obtain rfl := e
  obtain ⟨g2, e2, h2, -⟩ := hb _ hg
  simp only [Addr.mk.injEq, and_true] at e2
  subst e2
  exact ⟨by rw [hc, nth_castL], hf, h2⟩
theorem Dv.set {w0 W : World} {g n c : Nat} {M : List Nat} (h : Dv w0 (some ⟨g, 0, none⟩) n c M W) (hg : w0.heap.size ≤ g) (i x : Nat) : Dv w0 (some ⟨g, 0, none⟩) n c (M.set i x) (W.setCell ⟨g, i, none⟩ (.int .i64 (x : Int))) := by
  obtain ⟨h1, rfl, h3⟩ := h
  refine ⟨?_, by simp, h3.setCell hg _⟩
  have e : (castL M).length = M.length := castL_len M
  have := Own.stored (c := c) (by rw [e]; exact h1) i (x : Int)
  rw [e, castL_set] at this
  exact this
theorem Dv.ext2 {w0 W V : World} {ao : Option Addr} {n c : Nat} {M : List Nat} (h : Dv w0 ao n c M W) (hV : Ext W V) : Dv w0 ao n c M V := ⟨h.own.ext hV, h.len, h.ext.trans hV⟩
theorem Dv.drew {w0 W : World} {ao : Option Addr} {n c : Nat} {M : List Nat} (h : Dv w0 ao n c M W) : Dv w0 ao n c M W.drew := ⟨h.own.drew, h.len, h.ext.drew⟩
theorem dv_index (g n c : Nat) : ∀ (i : Nat) W, i < n → (Instr.indexAt 22 (.slice (some ⟨g, 0, none⟩) n c) (.int .i64 (i : Int))).run Try.prog W = .ok (.pointer (some ⟨g, i, none⟩)) W := by
  intro i W hi
  rw [run_indexAt_slice (h := elI), if_pos (by omega), szI]
  simp [Result.andThen, Addr.add_lit]
theorem DavenportBound_grp (v : Value) (l : List Int) (w : World) (h : Ints w v l) (Hgr : Hid (isGrp l = true)) :
    Calls Try.prog 28 #[.agg #[v]] w fun e w' => e = .returned (.int .i64 (dvEnd dvS (natG l) : Nat)) ∧ Ext w w' := by
  obtain ⟨wb, hwb⟩ : ∃ wb, wb = w.alloc (.cells #[v] 27) := ⟨_, rfl⟩
  have hE0 := (Ext.refl w).alloc (.cells #[v] 27)
  have hb := box_cell w v 27
  rw [← hwb] at hE0 hb
  have hg : ∀ W, Ext wb W → Ints W v l := fun W hW => h.ext (hE0.trans hW)
  have hE := Ext.refl wb
  have Hsz : Hid (w.heap.size + 1 = wb.heap.size) := Lib.hid (by rw [hwb]; simp [go_sem])
  have Hwb := Lib.hid hwb
  clear hwb h
  have hbx := hb wb hE
  obtain ⟨M0, hM0⟩ : ∃ M, natG l = M := ⟨_, rfl⟩
  have Hl : Hid (l = castL M0) := Lib.hid (by rw [← hM0]; exact (natG_cast Hgr.out).symm)
  have Hck : Hid (dvChk dvS M0 = true) := Lib.hid (by rw [← hM0]; exact dv_chkS Hgr.out)
  have hn3 : M0.length ≤ 3 := by rw [← hM0]; simpa [natG] using isGrp_len Hgr.out
  rw [hM0]
  clear hM0
  go_enter Try.func28, Try.ntmps28
  go_wp2_with fail
  rw [← Hwb.out]
  go_wp2_with (first | (go_at_call 21; refine (IsGroup_any _ _ _ (hg _ hE)).mono ?_; rintro e w1 ⟨rfl, hE1⟩; have hb1 := hb _ (hE.trans hE1); have hg1 := hg _ (hE.trans hE1); have hgr := Hgr.out) | (go_at_call 46; refine (copyInts_any _ _ _ hg1).mono ?_; rintro e w2 ⟨v2, rfl, hO, hE2⟩; obtain ⟨ao, c, rfl, -⟩ := hO.shape))
  have hlm : l.length = M0.length := by rw [Hl.out, castL_len]
  have hD0 : Dv w1 ao M0.length c M0 w2 := ⟨by rw [← hlm, ← Hl.out]; exact hO, rfl, hE2⟩
  rw [hlm]
  have hW1 := hE0.trans (hE.trans hE1)
  clear hO hb1 hg1 hb hg hbx hgr
  go_wp2_with fail
  clear hE hE1 hE2
  go_loopw [18] (fun iv wr => ∃ i : Nat, i ≤ M0.length ∧ iv = .int .i64 i ∧ Dv w1 ao M0.length c (dvOut dvS M0.length M0 i) wr) (fun iv _ => M0.length - (intOf iv).toNat)
  case atStart => exact ⟨0, by omega, rfl, hD0⟩
  case round =>
    clear hD0
    rename World => wo
    obtain ⟨i, hi, rfl, hDo⟩ := hrel
    by_cases hlt : i < M0.length
    · have hltI : (i : Int) < (M0.length : Int) := by omega
      have Hin := Lib.hid (fun m (hm : m < M0.length - i) => dvChk_in Hck.out hlt hm)
      go_wp2_with fail
      go_loopw [5] (fun kv wr => ∃ m k : Nat, k = i + 1 + m ∧ k ≤ M0.length ∧ kv = .int .i64 k ∧ Dv w1 ao M0.length c (dvIn dvS i (dvOut dvS M0.length M0 i) m) wr) (fun kv _ => M0.length - (intOf kv).toNat)
      case atStart => exact ⟨0, i + 1, rfl, by omega, by go_num, hDo⟩
      case round =>
        clear hDo
        rename World => wr
        obtain ⟨m, k, hkm, hk, rfl, hD⟩ := hrel
        have Hkm := Lib.hid hkm
        have hik : i < k := by omega
        clear hkm
        by_cases hlk : k < M0.length
        · have hlkI : (k : Int) < (M0.length : Int) := by omega
          obtain ⟨hML, hMb⟩ := Hin.out m (by have := Hkm.out; omega)
          have Hnx : Hid (dvIn dvS i (dvOut dvS M0.length M0 i) (m + 1) = dvS (dvIn dvS i (dvOut dvS M0.length M0 i) m) i k) := Lib.hid (by rw [Hkm.out]; rfl)
          obtain ⟨M, hM⟩ : ∃ M, M = dvIn dvS i (dvOut dvS M0.length M0 i) m := ⟨_, rfl⟩
          rw [← hM] at hD hML hMb Hnx
          clear hM
          have hbi := hMb i hlt
          have hbk := hMb k hlk
          obtain ⟨g, rfl⟩ := hD.at hlt
          have hix := dv_index g M0.length c
          have hDd := hD.drew
          obtain ⟨ci, -, hgb⟩ := hDd.cell hlt
          have ck := (hDd.cell hlk).1
          replace Hnx := Lib.hid (Hnx.out.trans (show dvS M i k = (M.set i (nthN M i / Nat.gcd (nthN M i) (nthN M k) * nthN M k)).set k (Nat.gcd (nthN M i) (nthN M k)) from rfl))
          obtain ⟨a, ha⟩ : ∃ a, a = nthN M i := ⟨_, rfl⟩
          obtain ⟨b, hb⟩ : ∃ b, b = nthN M k := ⟨_, rfl⟩
          rw [← ha] at ci hbi Hnx
          rw [← hb] at ck hbk Hnx
          have HA := Lib.hid ha
          have HB := Lib.hid hb
          clear ha hb
          have hG0 : 0 < Nat.gcd a b := Nat.gcd_pos_of_pos_left _ (by omega)
          have hGa : Nat.gcd a b ≤ a := Nat.gcd_le_left _ (by omega)
          clear hMb
          have cG := gcd_any a b (by omega) (by omega)
          obtain ⟨G, hG⟩ : ∃ G, G = Nat.gcd a b := ⟨_, rfl⟩
          rw [← hG] at hG0 hGa Hnx
          rw [← hG] at cG
          clear hG
          go_wp2_with fail
          refine wp_region_held_drew (S := (fun W => W.cell? ⟨g, i, none⟩ = some (.int .i64 (a : Int)) ∧ W.cell? ⟨g, k, none⟩ = some (.int .i64 (b : Int)))) (by kernel_rfl) (by exact ⟨ci, ck⟩) (fun hHeld => ?_)
          (refine takeOn (i := 0) (v := ?_) (by kernel_rfl) (by rfl) (by rfl) (by kernel_rfl) (by kernel_rfl) (by intro _ _ _ h; exact h) ?_ (by assumption) ?_); (rotate_left 1); (focus ((intro w hSw); (try dsimp only at hSw); go_simp; (try with_reducible rfl))); (try simp only [Act.put, List.setIfInBounds_toArray, List.set_cons_zero, List.set_cons_succ, List.getElem_toArray, List.getElem_cons_zero, List.getElem_cons_succ])
          (refine takeOn (i := 1) (v := ?_) (by kernel_rfl) (by rfl) (by rfl) (by kernel_rfl) (by kernel_rfl) (by intro _ _ _ h; exact h) ?_ (by assumption) ?_); (rotate_left 1); (focus ((intro w hSw); (try dsimp only at hSw); go_simp; (try with_reducible rfl))); (try simp only [Act.put, List.setIfInBounds_toArray, List.set_cons_zero, List.set_cons_succ, List.getElem_toArray, List.getElem_cons_zero, List.getElem_cons_succ])
          (refine takeOn (i := 2) (v := ?_) (by kernel_rfl) (by rfl) (by rfl) (by kernel_rfl) (by kernel_rfl) (by intro _ _ _ h; exact h) ?_ (by assumption) ?_); (rotate_left 1); (focus ((intro w hSw); (try dsimp only at hSw); go_simp; (try with_reducible rfl))); (try simp only [Act.put, List.setIfInBounds_toArray, List.set_cons_zero, List.set_cons_succ, List.getElem_toArray, List.getElem_cons_zero, List.getElem_cons_succ])
          (refine takeOn (i := 3) (v := ?_) (by kernel_rfl) (by rfl) (by rfl) (by kernel_rfl) (by kernel_rfl) (by intro _ _ _ h; exact h) ?_ (by assumption) ?_); (rotate_left 1); (focus ((intro w hSw); (try dsimp only at hSw); go_simp; (try with_reducible rfl))); (try simp only [Act.put, List.setIfInBounds_toArray, List.set_cons_zero, List.set_cons_succ, List.getElem_toArray, List.getElem_cons_zero, List.getElem_cons_succ])
          (refine takeOn (i := 4) (v := ?_) (by kernel_rfl) (by rfl) (by rfl) (by kernel_rfl) (by kernel_rfl) (by intro _ _ _ h; exact h) ?_ (by assumption) ?_); (rotate_left 1); (focus ((intro w hSw); (try dsimp only at hSw); go_simp; (try with_reducible rfl))); (try simp only [Act.put, List.setIfInBounds_toArray, List.set_cons_zero, List.set_cons_succ, List.getElem_toArray, List.getElem_cons_zero, List.getElem_cons_succ])
          (refine takeOn (i := 5) (v := ?_) (by kernel_rfl) (by rfl) (by rfl) (by kernel_rfl) (by kernel_rfl) (by intro _ _ _ h; exact h) ?_ (by assumption) ?_); (rotate_left 1); (focus ((intro w hSw); (try dsimp only at hSw); go_simp; (try with_reducible rfl))); (try simp only [Act.put, List.setIfInBounds_toArray, List.set_cons_zero, List.set_cons_succ, List.getElem_toArray, List.getElem_cons_zero, List.getElem_cons_succ])
          (refine takeOn (i := 6) (v := ?_) (by kernel_rfl) (by rfl) (by rfl) (by kernel_rfl) (by kernel_rfl) (by intro _ _ _ h; exact h) ?_ (by assumption) ?_); (rotate_left 1); (focus ((intro w hSw); (try dsimp only at hSw); go_simp; (try with_reducible rfl))); (try simp only [Act.put, List.setIfInBounds_toArray, List.set_cons_zero, List.set_cons_succ, List.getElem_toArray, List.getElem_cons_zero, List.getElem_cons_succ])
          (refine takeOn (i := 7) (v := ?_) (by kernel_rfl) (by rfl) (by rfl) (by kernel_rfl) (by kernel_rfl) (by intro _ _ _ h; exact h) ?_ (by assumption) ?_); (rotate_left 1); (focus ((intro w hSw); (try dsimp only at hSw); go_simp; (try with_reducible rfl))); (try simp only [Act.put, List.setIfInBounds_toArray, List.set_cons_zero, List.set_cons_succ, List.getElem_toArray, List.getElem_cons_zero, List.getElem_cons_succ])
          refine takeOne (i := 8) (by kernel_rfl) (by rfl) (by rfl) (fun K hK => ?_)
          go_simp; (go_at_call 45; (with_reducible refine Calls.mono (cG _) ?_); rintro e w3 ⟨rfl, hE3⟩); have hD3 := hDd.ext2 hE3; have di := (hD3.cell hlt).1; have dk := (hD3.cell hlk).1; rw [← HA.out] at di; rw [← HB.out] at dk
          refine hK.out _ _ (by exact ⟨di, dk⟩) (fun hHeld => ?_)
          clear hK K
          (try simp only [Act.put, List.setIfInBounds_toArray, List.set_cons_zero, List.set_cons_succ, List.getElem_toArray, List.getElem_cons_zero, List.getElem_cons_succ])
          (refine takeOn (i := 9) (v := ?_) (by kernel_rfl) (by rfl) (by rfl) (by kernel_rfl) (by kernel_rfl) (by intro _ _ _ h; exact h) ?_ (by assumption) ?_); (rotate_left 1); (focus ((intro w hSw); (try dsimp only at hSw); go_simp; (try with_reducible rfl))); (try simp only [Act.put, List.setIfInBounds_toArray, List.set_cons_zero, List.set_cons_succ, List.getElem_toArray, List.getElem_cons_zero, List.getElem_cons_succ])
          refine wpAnyH_done (by kernel_rfl) ?_ _
          go_wp2_with fail
          have d1 : (a : Int) / (G : Int) * (b : Int) = ((a / G * b : Nat) : Int) := by rw [Int.natCast_mul, Int.natCast_ediv]
          have hq : a / G ≤ 24 := Nat.le_trans (Nat.div_le_self _ _) (by omega)
          have hq2 : a / G * b ≤ 576 := Nat.mul_le_mul hq hbk.2
          have d2 : ((a / G : Nat) : Int) = (a : Int) / (G : Int) := Int.natCast_ediv _ _
          have hqI : 0 ≤ (a : Int) / (G : Int) ∧ (a : Int) / (G : Int) ≤ 24 := ⟨by rw [← d2]; exact Int.natCast_nonneg _, by rw [← d2]; exact Int.ofNat_le.2 hq⟩
          have hmm : 0 ≤ (a : Int) / (G : Int) * (b : Int) ∧ (a : Int) / (G : Int) * (b : Int) ≤ 576 := ⟨by rw [d1]; exact Int.natCast_nonneg _, by rw [d1]; exact Int.ofNat_le.2 hq2⟩
          have hne2 : ((G : Int) == 0) = false := by simp; omega
          have hpos : 0 < (G : Int) := by omega
          have hD4 := hD3.drew
          have hD5 : Dv w1 (some ⟨g, 0, none⟩) M0.length c (M.set i (a / G * b)) (w3.setCell ⟨g, i, none⟩ (.int .i64 ((a : Int) / (G : Int) * (b : Int)))) := by rw [d1]; exact hD3.set hgb i _
          have hD6 := hD5.set hgb k G
          rw [← Hnx.out] at hD6
          have fi := (hD4.cell hlt).2.1
          have ei := (hD4.cell hlt).1
          have ek := (hD4.cell hlk).1
          have fk := (hD3.cell hlk).2.1
          have hw1 : IntKind.i64.wrap ((a : Int) / (G : Int)) = (a : Int) / (G : Int) := IntWalk.i64_in _ (by omega)
          have hw2 : IntKind.i64.wrap ((a : Int) / (G : Int) * (b : Int)) = (a : Int) / (G : Int) * (b : Int) := IntWalk.i64_in _ (by omega)
          rw [← HA.out] at ei
          rw [← HB.out] at ek
          clear d1 d2 hq hq2 ci ck di dk
          go_wp2_with fail
          refine wp_region_held_drew (S := (fun _ => True)) (by kernel_rfl) (by trivial) (fun hHeld => ?_)
          (refine takeOn (i := 0) (v := ?_) (by kernel_rfl) (by rfl) (by rfl) (by kernel_rfl) (by kernel_rfl) (by intro _ _ _ h; exact h) ?_ (by assumption) ?_); (rotate_left 1); (focus ((intro w hSw); (try dsimp only at hSw); go_simp; (try with_reducible rfl))); (try simp only [Act.put, List.setIfInBounds_toArray, List.set_cons_zero, List.set_cons_succ, List.getElem_toArray, List.getElem_cons_zero, List.getElem_cons_succ])
          (refine takeOn (i := 1) (v := ?_) (by kernel_rfl) (by rfl) (by rfl) (by kernel_rfl) (by kernel_rfl) (by intro _ _ _ h; exact h) ?_ (by assumption) ?_); (rotate_left 1); (focus ((intro w hSw); (try dsimp only at hSw); go_simp; (try with_reducible rfl))); (try simp only [Act.put, List.setIfInBounds_toArray, List.set_cons_zero, List.set_cons_succ, List.getElem_toArray, List.getElem_cons_zero, List.getElem_cons_succ])
          (refine takeOn (i := 2) (v := ?_) (by kernel_rfl) (by rfl) (by rfl) (by kernel_rfl) (by kernel_rfl) (by intro _ _ _ h; exact h) ?_ (by assumption) ?_); (rotate_left 1); (focus ((intro w hSw); (try dsimp only at hSw); go_simp; (try with_reducible rfl))); (try simp only [Act.put, List.setIfInBounds_toArray, List.set_cons_zero, List.set_cons_succ, List.getElem_toArray, List.getElem_cons_zero, List.getElem_cons_succ])
          (refine takeOn (i := 3) (v := ?_) (by kernel_rfl) (by rfl) (by rfl) (by kernel_rfl) (by kernel_rfl) (by intro _ _ _ h; exact h) ?_ (by assumption) ?_); (rotate_left 1); (focus ((intro w hSw); (try dsimp only at hSw); go_simp; (try with_reducible rfl))); (try simp only [Act.put, List.setIfInBounds_toArray, List.set_cons_zero, List.set_cons_succ, List.getElem_toArray, List.getElem_cons_zero, List.getElem_cons_succ])
          (refine takeOn (i := 4) (v := ?_) (by kernel_rfl) (by rfl) (by rfl) (by kernel_rfl) (by kernel_rfl) (by intro _ _ _ h; exact h) ?_ (by assumption) ?_); (rotate_left 1); (focus ((intro w hSw); (try dsimp only at hSw); go_simp; (try with_reducible rfl))); (try simp only [Act.put, List.setIfInBounds_toArray, List.set_cons_zero, List.set_cons_succ, List.getElem_toArray, List.getElem_cons_zero, List.getElem_cons_succ])
          (refine takeOn (i := 5) (v := ?_) (by kernel_rfl) (by rfl) (by rfl) (by kernel_rfl) (by kernel_rfl) (by intro _ _ _ h; exact h) ?_ (by assumption) ?_); (rotate_left 1); (focus ((intro w hSw); (try dsimp only at hSw); go_simp; (try with_reducible rfl))); (try simp only [Act.put, List.setIfInBounds_toArray, List.set_cons_zero, List.set_cons_succ, List.getElem_toArray, List.getElem_cons_zero, List.getElem_cons_succ])
          (refine takeOn (i := 6) (v := ?_) (by kernel_rfl) (by rfl) (by rfl) (by kernel_rfl) (by kernel_rfl) (by intro _ _ _ h; exact h) ?_ (by assumption) ?_); (rotate_left 1); (focus ((intro w hSw); (try dsimp only at hSw); go_simp; (try with_reducible rfl))); (try simp only [Act.put, List.setIfInBounds_toArray, List.set_cons_zero, List.set_cons_succ, List.getElem_toArray, List.getElem_cons_zero, List.getElem_cons_succ])
          (refine takeOn (i := 8) (v := ?_) (by kernel_rfl) (by rfl) (by rfl) (by kernel_rfl) (by kernel_rfl) (by intro _ _ _ h; exact h) ?_ (by assumption) ?_); (rotate_left 1); (focus ((intro w hSw); (try dsimp only at hSw); go_simp; (try with_reducible rfl))); (try simp only [Act.put, List.setIfInBounds_toArray, List.set_cons_zero, List.set_cons_succ, List.getElem_toArray, List.getElem_cons_zero, List.getElem_cons_succ])
          (refine takeOn (i := 10) (v := ?_) (by kernel_rfl) (by rfl) (by rfl) (by kernel_rfl) (by kernel_rfl) (by intro _ _ _ h; exact h) ?_ (by assumption) ?_); (rotate_left 1); (focus ((intro w hSw); (try dsimp only at hSw); go_simp; (try with_reducible rfl))); (try simp only [Act.put, List.setIfInBounds_toArray, List.set_cons_zero, List.set_cons_succ, List.getElem_toArray, List.getElem_cons_zero, List.getElem_cons_succ])
          (refine takeOn (i := 11) (v := ?_) (by kernel_rfl) (by rfl) (by rfl) (by kernel_rfl) (by kernel_rfl) (by intro _ _ _ h; exact h) ?_ (by assumption) ?_); (rotate_left 1); (focus ((intro w hSw); (try dsimp only at hSw); go_simp; (try with_reducible rfl))); (try simp only [Act.put, List.setIfInBounds_toArray, List.set_cons_zero, List.set_cons_succ, List.getElem_toArray, List.getElem_cons_zero, List.getElem_cons_succ])
          (refine takeOn (i := 12) (v := ?_) (by kernel_rfl) (by rfl) (by rfl) (by kernel_rfl) (by kernel_rfl) (by intro _ _ _ h; exact h) ?_ (by assumption) ?_); (rotate_left 1); (focus ((intro w hSw); (try dsimp only at hSw); go_simp; (try with_reducible rfl))); (try simp only [Act.put, List.setIfInBounds_toArray, List.set_cons_zero, List.set_cons_succ, List.getElem_toArray, List.getElem_cons_zero, List.getElem_cons_succ])
          (refine takeOn (i := 15) (v := ?_) (by kernel_rfl) (by rfl) (by rfl) (by kernel_rfl) (by kernel_rfl) (by intro _ _ _ h; exact h) ?_ (by assumption) ?_); (rotate_left 1); (focus ((intro w hSw); (try dsimp only at hSw); go_simp; (try with_reducible rfl))); (try simp only [Act.put, List.setIfInBounds_toArray, List.set_cons_zero, List.set_cons_succ, List.getElem_toArray, List.getElem_cons_zero, List.getElem_cons_succ])
          refine wpAnyH_ready (rs := [7, 13]) (by kernel_rfl) (by simp) ?_
          refine AllReadyH.cons (i := 7) (by rfl) (fun K hK => ?_) (AllReadyH.cons (i := 13) (by rfl) (fun K hK => ?_) (AllReadyH.nil))
          · rw [if_pos (by rfl)]
            go_simp
            refine hK.out _ _ (by trivial) (fun hHeld => ?_)
            clear hK K
            (try simp only [Act.put, List.setIfInBounds_toArray, List.set_cons_zero, List.set_cons_succ, List.getElem_toArray, List.getElem_cons_zero, List.getElem_cons_succ])
            (refine takeOn (i := 9) (v := ?_) (by kernel_rfl) (by rfl) (by rfl) (by kernel_rfl) (by kernel_rfl) (by intro _ _ _ h; exact h) ?_ (by assumption) ?_); (rotate_left 1); (focus ((intro w hSw); (try dsimp only at hSw); go_simp; (first | done | with_reducible rfl | (rw [if_neg]; (try simp only [ByteArray.size_append, ByteArray.size_mk, List.size_toArray, List.length_cons, List.length_nil]); omega) | trace_state))); (try simp only [Act.put, List.setIfInBounds_toArray, List.set_cons_zero, List.set_cons_succ, List.getElem_toArray, List.getElem_cons_zero, List.getElem_cons_succ])
            refine takeOne (i := 13) (by kernel_rfl) (by rfl) (by rfl) (fun K hK => ?_)
            go_simp
            refine hK.out _ _ (by trivial) (fun hHeld => ?_)
            clear hK K
            (try simp only [Act.put, List.setIfInBounds_toArray, List.set_cons_zero, List.set_cons_succ, List.getElem_toArray, List.getElem_cons_zero, List.getElem_cons_succ])
            (refine takeOn (i := 14) (v := ?_) (by kernel_rfl) (by rfl) (by rfl) (by kernel_rfl) (by kernel_rfl) (by intro _ _ _ h; exact h) ?_ (by assumption) ?_); (rotate_left 1); (focus ((intro w hSw); (try dsimp only at hSw); go_simp; (first | done | with_reducible rfl | (rw [if_neg]; (try simp only [ByteArray.size_append, ByteArray.size_mk, List.size_toArray, List.length_cons, List.length_nil]); omega) | trace_state))); (try simp only [Act.put, List.setIfInBounds_toArray, List.set_cons_zero, List.set_cons_succ, List.getElem_toArray, List.getElem_cons_zero, List.getElem_cons_succ])
            (refine takeOn (i := 16) (v := ?_) (by kernel_rfl) (by rfl) (by rfl) (by kernel_rfl) (by kernel_rfl) (by intro _ _ _ h; exact h) ?_ (by assumption) ?_); (rotate_left 1); (focus ((intro w hSw); (try dsimp only at hSw); go_simp; (try with_reducible rfl))); (try simp only [Act.put, List.setIfInBounds_toArray, List.set_cons_zero, List.set_cons_succ, List.getElem_toArray, List.getElem_cons_zero, List.getElem_cons_succ])
            refine takeOne (i := 17) (by kernel_rfl) (by rfl) (by rfl) (fun K hK => ?_)
            go_simp
            refine hK.out _ _ (by trivial) (fun hHeld => ?_)
            clear hK K
            (try simp only [Act.put, List.setIfInBounds_toArray, List.set_cons_zero, List.set_cons_succ, List.getElem_toArray, List.getElem_cons_zero, List.getElem_cons_succ])
            (refine takeOn (i := 18) (v := ?_) (by kernel_rfl) (by rfl) (by rfl) (by kernel_rfl) (by kernel_rfl) (by intro _ _ _ h; exact h) ?_ (by assumption) ?_); (rotate_left 1); (focus ((intro w hSw); (try dsimp only at hSw); go_simp; (try with_reducible rfl))); (try simp only [Act.put, List.setIfInBounds_toArray, List.set_cons_zero, List.set_cons_succ, List.getElem_toArray, List.getElem_cons_zero, List.getElem_cons_succ])
            refine takeOne (i := 19) (by kernel_rfl) (by rfl) (by rfl) (fun K hK => ?_)
            go_simp
            refine hK.out _ _ (by trivial) (fun hHeld => ?_)
            clear hK K
            (try simp only [Act.put, List.setIfInBounds_toArray, List.set_cons_zero, List.set_cons_succ, List.getElem_toArray, List.getElem_cons_zero, List.getElem_cons_succ])
            refine wpAnyH_done (by kernel_rfl) ?_ _
            go_wp2_with fail
            go_roundw
            case rel => exact ⟨m + 1, k + 1, by have := Hkm.out; omega, by omega, by go_num, hD6.drew⟩
            case measure => (simp [intOf]; omega)
          · rw [if_pos (by rfl)]
            go_simp
            refine hK.out _ _ (by trivial) (fun hHeld => ?_)
            clear hK K
            (try simp only [Act.put, List.setIfInBounds_toArray, List.set_cons_zero, List.set_cons_succ, List.getElem_toArray, List.getElem_cons_zero, List.getElem_cons_succ])
            refine takeOne (i := 7) (by kernel_rfl) (by rfl) (by rfl) (fun K hK => ?_)
            go_simp
            refine hK.out _ _ (by trivial) (fun hHeld => ?_)
            clear hK K
            (try simp only [Act.put, List.setIfInBounds_toArray, List.set_cons_zero, List.set_cons_succ, List.getElem_toArray, List.getElem_cons_zero, List.getElem_cons_succ])
            (refine takeOn (i := 9) (v := ?_) (by kernel_rfl) (by rfl) (by rfl) (by kernel_rfl) (by kernel_rfl) (by intro _ _ _ h; exact h) ?_ (by assumption) ?_); (rotate_left 1); (focus ((intro w hSw); (try dsimp only at hSw); go_simp; (first | done | with_reducible rfl | (rw [if_neg]; (try simp only [ByteArray.size_append, ByteArray.size_mk, List.size_toArray, List.length_cons, List.length_nil]); omega) | trace_state))); (try simp only [Act.put, List.setIfInBounds_toArray, List.set_cons_zero, List.set_cons_succ, List.getElem_toArray, List.getElem_cons_zero, List.getElem_cons_succ])
            (refine takeOn (i := 14) (v := ?_) (by kernel_rfl) (by rfl) (by rfl) (by kernel_rfl) (by kernel_rfl) (by intro _ _ _ h; exact h) ?_ (by assumption) ?_); (rotate_left 1); (focus ((intro w hSw); (try dsimp only at hSw); go_simp; (first | done | with_reducible rfl | (rw [if_neg]; (try simp only [ByteArray.size_append, ByteArray.size_mk, List.size_toArray, List.length_cons, List.length_nil]); omega) | trace_state))); (try simp only [Act.put, List.setIfInBounds_toArray, List.set_cons_zero, List.set_cons_succ, List.getElem_toArray, List.getElem_cons_zero, List.getElem_cons_succ])
            (refine takeOn (i := 16) (v := ?_) (by kernel_rfl) (by rfl) (by rfl) (by kernel_rfl) (by kernel_rfl) (by intro _ _ _ h; exact h) ?_ (by assumption) ?_); (rotate_left 1); (focus ((intro w hSw); (try dsimp only at hSw); go_simp; (try with_reducible rfl))); (try simp only [Act.put, List.setIfInBounds_toArray, List.set_cons_zero, List.set_cons_succ, List.getElem_toArray, List.getElem_cons_zero, List.getElem_cons_succ])
            refine takeOne (i := 17) (by kernel_rfl) (by rfl) (by rfl) (fun K hK => ?_)
            go_simp
            refine hK.out _ _ (by trivial) (fun hHeld => ?_)
            clear hK K
            (try simp only [Act.put, List.setIfInBounds_toArray, List.set_cons_zero, List.set_cons_succ, List.getElem_toArray, List.getElem_cons_zero, List.getElem_cons_succ])
            (refine takeOn (i := 18) (v := ?_) (by kernel_rfl) (by rfl) (by rfl) (by kernel_rfl) (by kernel_rfl) (by intro _ _ _ h; exact h) ?_ (by assumption) ?_); (rotate_left 1); (focus ((intro w hSw); (try dsimp only at hSw); go_simp; (try with_reducible rfl))); (try simp only [Act.put, List.setIfInBounds_toArray, List.set_cons_zero, List.set_cons_succ, List.getElem_toArray, List.getElem_cons_zero, List.getElem_cons_succ])
            refine takeOne (i := 19) (by kernel_rfl) (by rfl) (by rfl) (fun K hK => ?_)
            go_simp
            refine hK.out _ _ (by trivial) (fun hHeld => ?_)
            clear hK K
            (try simp only [Act.put, List.setIfInBounds_toArray, List.set_cons_zero, List.set_cons_succ, List.getElem_toArray, List.getElem_cons_zero, List.getElem_cons_succ])
            refine wpAnyH_done (by kernel_rfl) ?_ _
            go_wp2_with fail
            go_roundw
            case rel => exact ⟨m + 1, k + 1, by have := Hkm.out; omega, by omega, by go_num, hD6.drew⟩
            case measure => (simp [intOf]; omega)
        · have hlkI : ¬ (k : Int) < (M0.length : Int) := by omega
          have Hm : Hid (m = M0.length - (i + 1)) := Lib.hid (by have := Hkm.out; omega)
          rw [Hm.out] at hD
          go_wp2_with fail
          go_roundw
          case rel => exact ⟨i + 1, by omega, by go_num, hD⟩
          case measure => (simp [intOf]; omega)
    · have hin : i = M0.length := by omega
      have hltI : ¬ (i : Int) < (M0.length : Int) := by omega
      rw [hin] at hDo hltI ⊢
      clear hin hi
      obtain ⟨hML, hMb⟩ := dvChk_end Hck.out
      obtain ⟨M, hM⟩ : ∃ M, M = dvOut dvS M0.length M0 M0.length := ⟨_, rfl⟩
      have Hend : Hid (dvEnd dvS M0 = dvSum M M0.length) := Lib.hid (by rw [hM]; rfl)
      rw [← hM] at hDo hML hMb
      clear hM
      have Hsum := Lib.hid (dvSum_le M (by rw [hML]; exact hMb))
      have Hb := Lib.hid hMb
      clear hMb
      go_wp2_with fail
      go_loop [7, 59] (fun sv jv => ∃ j : Nat, j ≤ M0.length ∧ jv = .int .i64 j ∧ sv = .int .i64 (dvSum M j : Nat)) (fun _ jv => M0.length - (intOf jv).toNat)
      case atStart => exact ⟨0, by omega, rfl, rfl⟩
      case round =>
        obtain ⟨j, hj, rfl, rfl⟩ := hrel
        by_cases hlj : j < M0.length
        · have hljI : (j : Int) < (M0.length : Int) := by omega
          obtain ⟨g, rfl⟩ := hDo.at hlj
          have hix := dv_index g M0.length c
          have cj := (hDo.cell hlj).1
          have hs := Hsum.out j (by omega)
          have hbj := Hb.out j hlj
          have Hn : Hid (dvSum M (j + 1) = dvSum M j + nthN M j - 1) := Lib.hid rfl
          obtain ⟨S, hS⟩ : ∃ S, S = dvSum M j := ⟨_, rfl⟩
          obtain ⟨a, ha⟩ : ∃ a, a = nthN M j := ⟨_, rfl⟩
          rw [← hS] at hs Hn ⊢
          rw [← ha] at cj hbj Hn
          clear hS ha
          go_wp2_with fail
          go_round
          case rel => exact ⟨j + 1, by omega, by go_num, by rw [Hn.out]; go_num⟩
          case measure => (simp [intOf]; omega)
        · have hjn : j = M0.length := by omega
          have hljI : ¬ (j : Int) < (M0.length : Int) := by omega
          rw [hjn] at hljI ⊢
          clear hjn hj hlj
          go_wp2_with fail
          go_ret
          exact ⟨ret_int (by rw [Hend.out]), hW1.trans hDo.ext⟩
end Go.Zz

/- Davenport's bound: the reference. -/
namespace Go.Zz
open Go.RowKit Go.Proofs
set_option maxHeartbeats 2000000
set_option maxRecDepth 8000

theorem sDavenportBound_grp (v : Value) (l : List Int) (w : World) (h : Ints w v l) (Hgr : Hid (isGrp l = true)) :
    Calls Try.prog 16 #[.agg #[v]] w fun e w' => e = .returned (.int .i64 (dvEnd dvT (natG l) : Nat)) ∧ Ext w w' := by
  obtain ⟨wb, hwb⟩ : ∃ wb, wb = w.alloc (.cells #[v] 27) := ⟨_, rfl⟩
  have hE0 := (Ext.refl w).alloc (.cells #[v] 27)
  have hb := box_cell w v 27
  rw [← hwb] at hE0 hb
  have hg : ∀ W, Ext wb W → Ints W v l := fun W hW => h.ext (hE0.trans hW)
  have hE := Ext.refl wb
  have Hsz : Hid (w.heap.size + 1 = wb.heap.size) := Lib.hid (by rw [hwb]; simp [go_sem])
  have Hwb := Lib.hid hwb
  clear hwb h
  have hbx := hb wb hE
  obtain ⟨M0, hM0⟩ : ∃ M, natG l = M := ⟨_, rfl⟩
  have Hl : Hid (l = castL M0) := Lib.hid (by rw [← hM0]; exact (natG_cast Hgr.out).symm)
  have Hck : Hid (dvChk dvT M0 = true) := Lib.hid (by rw [← hM0]; exact dv_chkT Hgr.out)
  have hn3 : M0.length ≤ 3 := by rw [← hM0]; simpa [natG] using isGrp_len Hgr.out
  rw [hM0]
  clear hM0
  go_enter Try.func16, Try.ntmps16
  go_wp2_with fail
  rw [← Hwb.out]
  go_wp2_with (first | (go_at_call 10; refine (sIsGroup_any _ _ _ (hg _ hE)).mono ?_; rintro e w1 ⟨rfl, hE1⟩; have hb1 := hb _ ((hE.trans hE1).alloc (.cells #[] 3)); have hg1 := hg _ (hE.trans hE1); have hgr := Hgr.out; have hll := isGrp_len hgr; have hO0 := own_made (TI := 3) (n := 0) (by omega) (Ext.refl w1) [] rfl; have hEa := (Ext.refl w1).alloc (.cells #[] 3); have hIa := hg1.ext hEa) | (at_builtin; refine wp_appends slI rfl _ _ rfl w1 _ _ _ _ _ hO0 hIa hEa (by simp only [List.length_nil]; omega) rfl rfl ?_; intro v2 w2 hO hE2; simp only [List.nil_append] at hO; obtain ⟨ao, c, rfl, -⟩ := hO.shape))
  have hlm : l.length = M0.length := by rw [Hl.out, castL_len]
  have hD0 : Dv w1 ao M0.length c M0 w2 := ⟨by rw [← hlm, ← Hl.out]; exact hO, rfl, hE2⟩
  rw [hlm]
  have hW1 := hE0.trans (hE.trans hE1)
  clear hO hb1 hg1 hb hg hbx hgr
  go_wp2_with fail
  clear hE hE1 hE2
  go_loopw [4] (fun iv wr => ∃ i : Nat, i ≤ M0.length ∧ iv = .int .i64 i ∧ Dv w1 ao M0.length c (dvOut dvT M0.length M0 i) wr) (fun iv _ => M0.length - (intOf iv).toNat)
  case atStart => exact ⟨0, by omega, rfl, hD0⟩
  case round =>
    clear hD0
    rename World => wo
    obtain ⟨i, hi, rfl, hDo⟩ := hrel
    by_cases hlt : i < M0.length
    · have hltI : (i : Int) < (M0.length : Int) := by omega
      have Hin := Lib.hid (fun m (hm : m < M0.length - i) => dvChk_in Hck.out hlt hm)
      go_wp2_with fail
      go_loopw [5] (fun kv wr => ∃ m k : Nat, k = i + 1 + m ∧ k ≤ M0.length ∧ kv = .int .i64 k ∧ Dv w1 ao M0.length c (dvIn dvT i (dvOut dvT M0.length M0 i) m) wr) (fun kv _ => M0.length - (intOf kv).toNat)
      case atStart => exact ⟨0, i + 1, rfl, by omega, by go_num, hDo⟩
      case round =>
        clear hDo
        rename World => wr
        obtain ⟨m, k, hkm, hk, rfl, hD⟩ := hrel
        have Hkm := Lib.hid hkm
        have hik : i < k := by omega
        clear hkm
        by_cases hlk : k < M0.length
        · have hlkI : (k : Int) < (M0.length : Int) := by omega
          obtain ⟨hML, hMb⟩ := Hin.out m (by have := Hkm.out; omega)
          have Hnx : Hid (dvIn dvT i (dvOut dvT M0.length M0 i) (m + 1) = dvT (dvIn dvT i (dvOut dvT M0.length M0 i) m) i k) := Lib.hid (by rw [Hkm.out]; rfl)
          obtain ⟨M, hM⟩ : ∃ M, M = dvIn dvT i (dvOut dvT M0.length M0 i) m := ⟨_, rfl⟩
          rw [← hM] at hD hML hMb Hnx
          clear hM
          have hbi := hMb i hlt
          have hbk := hMb k hlk
          obtain ⟨g, rfl⟩ := hD.at hlt
          have hix := dv_index g M0.length c
          have hDd := hD.drew
          obtain ⟨ci, -, hgb⟩ := hDd.cell hlt
          have ck := (hDd.cell hlk).1
          replace Hnx := Lib.hid (Hnx.out.trans (show dvT M i k = (M.set i (Nat.gcd (nthN M i) (nthN M k))).set k (nthN M i / Nat.gcd (nthN M i) (nthN M k) * nthN M k) from rfl))
          obtain ⟨a, ha⟩ : ∃ a, a = nthN M i := ⟨_, rfl⟩
          obtain ⟨b, hb⟩ : ∃ b, b = nthN M k := ⟨_, rfl⟩
          rw [← ha] at ci hbi Hnx
          rw [← hb] at ck hbk Hnx
          have HA := Lib.hid ha
          have HB := Lib.hid hb
          clear ha hb
          have hG0 : 0 < Nat.gcd a b := Nat.gcd_pos_of_pos_left _ (by omega)
          have hGa : Nat.gcd a b ≤ a := Nat.gcd_le_left _ (by omega)
          clear hMb
          have cG := l11Divisor_any a b (by omega) (by omega)
          obtain ⟨G, hG⟩ : ∃ G, G = Nat.gcd a b := ⟨_, rfl⟩
          rw [← hG] at hG0 hGa Hnx
          rw [← hG] at cG
          clear hG
          go_wp2_with fail
          refine wp_region_held_drew (S := (fun W => W.cell? ⟨g, i, none⟩ = some (.int .i64 (a : Int)) ∧ W.cell? ⟨g, k, none⟩ = some (.int .i64 (b : Int)))) (by kernel_rfl) (by exact ⟨ci, ck⟩) (fun hHeld => ?_)
          (refine takeOn (i := 0) (v := ?_) (by kernel_rfl) (by rfl) (by rfl) (by kernel_rfl) (by kernel_rfl) (by intro _ _ _ h; exact h) ?_ (by assumption) ?_); (rotate_left 1); (focus ((intro w hSw); (try dsimp only at hSw); go_simp; (try with_reducible rfl))); (try simp only [Act.put, List.setIfInBounds_toArray, List.set_cons_zero, List.set_cons_succ, List.getElem_toArray, List.getElem_cons_zero, List.getElem_cons_succ])
          (refine takeOn (i := 1) (v := ?_) (by kernel_rfl) (by rfl) (by rfl) (by kernel_rfl) (by kernel_rfl) (by intro _ _ _ h; exact h) ?_ (by assumption) ?_); (rotate_left 1); (focus ((intro w hSw); (try dsimp only at hSw); go_simp; (try with_reducible rfl))); (try simp only [Act.put, List.setIfInBounds_toArray, List.set_cons_zero, List.set_cons_succ, List.getElem_toArray, List.getElem_cons_zero, List.getElem_cons_succ])
          (refine takeOn (i := 2) (v := ?_) (by kernel_rfl) (by rfl) (by rfl) (by kernel_rfl) (by kernel_rfl) (by intro _ _ _ h; exact h) ?_ (by assumption) ?_); (rotate_left 1); (focus ((intro w hSw); (try dsimp only at hSw); go_simp; (try with_reducible rfl))); (try simp only [Act.put, List.setIfInBounds_toArray, List.set_cons_zero, List.set_cons_succ, List.getElem_toArray, List.getElem_cons_zero, List.getElem_cons_succ])
          (refine takeOn (i := 3) (v := ?_) (by kernel_rfl) (by rfl) (by rfl) (by kernel_rfl) (by kernel_rfl) (by intro _ _ _ h; exact h) ?_ (by assumption) ?_); (rotate_left 1); (focus ((intro w hSw); (try dsimp only at hSw); go_simp; (try with_reducible rfl))); (try simp only [Act.put, List.setIfInBounds_toArray, List.set_cons_zero, List.set_cons_succ, List.getElem_toArray, List.getElem_cons_zero, List.getElem_cons_succ])
          (refine takeOn (i := 4) (v := ?_) (by kernel_rfl) (by rfl) (by rfl) (by kernel_rfl) (by kernel_rfl) (by intro _ _ _ h; exact h) ?_ (by assumption) ?_); (rotate_left 1); (focus ((intro w hSw); (try dsimp only at hSw); go_simp; (try with_reducible rfl))); (try simp only [Act.put, List.setIfInBounds_toArray, List.set_cons_zero, List.set_cons_succ, List.getElem_toArray, List.getElem_cons_zero, List.getElem_cons_succ])
          (refine takeOn (i := 5) (v := ?_) (by kernel_rfl) (by rfl) (by rfl) (by kernel_rfl) (by kernel_rfl) (by intro _ _ _ h; exact h) ?_ (by assumption) ?_); (rotate_left 1); (focus ((intro w hSw); (try dsimp only at hSw); go_simp; (try with_reducible rfl))); (try simp only [Act.put, List.setIfInBounds_toArray, List.set_cons_zero, List.set_cons_succ, List.getElem_toArray, List.getElem_cons_zero, List.getElem_cons_succ])
          (refine takeOn (i := 6) (v := ?_) (by kernel_rfl) (by rfl) (by rfl) (by kernel_rfl) (by kernel_rfl) (by intro _ _ _ h; exact h) ?_ (by assumption) ?_); (rotate_left 1); (focus ((intro w hSw); (try dsimp only at hSw); go_simp; (try with_reducible rfl))); (try simp only [Act.put, List.setIfInBounds_toArray, List.set_cons_zero, List.set_cons_succ, List.getElem_toArray, List.getElem_cons_zero, List.getElem_cons_succ])
          (refine takeOn (i := 7) (v := ?_) (by kernel_rfl) (by rfl) (by rfl) (by kernel_rfl) (by kernel_rfl) (by intro _ _ _ h; exact h) ?_ (by assumption) ?_); (rotate_left 1); (focus ((intro w hSw); (try dsimp only at hSw); go_simp; (try with_reducible rfl))); (try simp only [Act.put, List.setIfInBounds_toArray, List.set_cons_zero, List.set_cons_succ, List.getElem_toArray, List.getElem_cons_zero, List.getElem_cons_succ])
          refine takeOne (i := 8) (by kernel_rfl) (by rfl) (by rfl) (fun K hK => ?_)
          go_simp; (go_at_call 37; (with_reducible refine Calls.mono (cG _) ?_); rintro e w3 ⟨rfl, hE3⟩); have hD3 := hDd.ext2 hE3; have di := (hD3.cell hlt).1; have dk := (hD3.cell hlk).1; rw [← HA.out] at di; rw [← HB.out] at dk
          refine hK.out _ _ (by exact ⟨di, dk⟩) (fun hHeld => ?_)
          clear hK K
          (try simp only [Act.put, List.setIfInBounds_toArray, List.set_cons_zero, List.set_cons_succ, List.getElem_toArray, List.getElem_cons_zero, List.getElem_cons_succ])
          (refine takeOn (i := 9) (v := ?_) (by kernel_rfl) (by rfl) (by rfl) (by kernel_rfl) (by kernel_rfl) (by intro _ _ _ h; exact h) ?_ (by assumption) ?_); (rotate_left 1); (focus ((intro w hSw); (try dsimp only at hSw); go_simp; (try with_reducible rfl))); (try simp only [Act.put, List.setIfInBounds_toArray, List.set_cons_zero, List.set_cons_succ, List.getElem_toArray, List.getElem_cons_zero, List.getElem_cons_succ])
          refine wpAnyH_done (by kernel_rfl) ?_ _
          go_wp2_with fail
          have d1 : (a : Int) / (G : Int) * (b : Int) = ((a / G * b : Nat) : Int) := by rw [Int.natCast_mul, Int.natCast_ediv]
          have hq : a / G ≤ 24 := Nat.le_trans (Nat.div_le_self _ _) (by omega)
          have hq2 : a / G * b ≤ 576 := Nat.mul_le_mul hq hbk.2
          have d2 : ((a / G : Nat) : Int) = (a : Int) / (G : Int) := Int.natCast_ediv _ _
          have hqI : 0 ≤ (a : Int) / (G : Int) ∧ (a : Int) / (G : Int) ≤ 24 := ⟨by rw [← d2]; exact Int.natCast_nonneg _, by rw [← d2]; exact Int.ofNat_le.2 hq⟩
          have hmm : 0 ≤ (a : Int) / (G : Int) * (b : Int) ∧ (a : Int) / (G : Int) * (b : Int) ≤ 576 := ⟨by rw [d1]; exact Int.natCast_nonneg _, by rw [d1]; exact Int.ofNat_le.2 hq2⟩
          have hne2 : ((G : Int) == 0) = false := by simp; omega
          have hpos : 0 < (G : Int) := by omega
          have hD5 := hD3.set hgb i G
          have hD6 : Dv w1 (some ⟨g, 0, none⟩) M0.length c ((M.set i G).set k (a / G * b)) ((w3.setCell ⟨g, i, none⟩ (.int .i64 (G : Int))).setCell ⟨g, k, none⟩ (.int .i64 ((a : Int) / (G : Int) * (b : Int)))) := by rw [d1]; exact hD5.set hgb k _
          rw [← Hnx.out] at hD6
          have fi := (hD3.cell hlt).2.1
          have fk := (hD3.cell hlk).2.1
          have ei := (hD3.drew.cell hlt).1
          have ek := (hD3.drew.cell hlk).1
          rw [← HA.out] at ei
          rw [← HB.out] at ek
          have hw1 : IntKind.i64.wrap ((a : Int) / (G : Int)) = (a : Int) / (G : Int) := IntWalk.i64_in _ (by omega)
          have hw2 : IntKind.i64.wrap ((a : Int) / (G : Int) * (b : Int)) = (a : Int) / (G : Int) * (b : Int) := IntWalk.i64_in _ (by omega)
          clear d1 d2 hq hq2 ci ck
          go_wp2_with fail
          refine wp_region_held_drew (S := (fun W => W.cell? ⟨g, i, none⟩ = some (.int .i64 (a : Int)) ∧ W.cell? ⟨g, k, none⟩ = some (.int .i64 (b : Int)))) (by kernel_rfl) (by exact ⟨ei, ek⟩) (fun hHeld => ?_)
          (refine takeOn (i := 0) (v := ?_) (by kernel_rfl) (by rfl) (by rfl) (by kernel_rfl) (by kernel_rfl) (by intro _ _ _ h; exact h) ?_ (by assumption) ?_); (rotate_left 1); (focus ((intro w hSw); (try dsimp only at hSw); go_simp; (try with_reducible rfl))); (try simp only [Act.put, List.setIfInBounds_toArray, List.set_cons_zero, List.set_cons_succ, List.getElem_toArray, List.getElem_cons_zero, List.getElem_cons_succ])
          (refine takeOn (i := 1) (v := ?_) (by kernel_rfl) (by rfl) (by rfl) (by kernel_rfl) (by kernel_rfl) (by intro _ _ _ h; exact h) ?_ (by assumption) ?_); (rotate_left 1); (focus ((intro w hSw); (try dsimp only at hSw); go_simp; (try with_reducible rfl))); (try simp only [Act.put, List.setIfInBounds_toArray, List.set_cons_zero, List.set_cons_succ, List.getElem_toArray, List.getElem_cons_zero, List.getElem_cons_succ])
          (refine takeOn (i := 2) (v := ?_) (by kernel_rfl) (by rfl) (by rfl) (by kernel_rfl) (by kernel_rfl) (by intro _ _ _ h; exact h) ?_ (by assumption) ?_); (rotate_left 1); (focus ((intro w hSw); (try dsimp only at hSw); go_simp; (try with_reducible rfl))); (try simp only [Act.put, List.setIfInBounds_toArray, List.set_cons_zero, List.set_cons_succ, List.getElem_toArray, List.getElem_cons_zero, List.getElem_cons_succ])
          (refine takeOn (i := 3) (v := ?_) (by kernel_rfl) (by rfl) (by rfl) (by kernel_rfl) (by kernel_rfl) (by intro _ _ _ h; exact h) ?_ (by assumption) ?_); (rotate_left 1); (focus ((intro w hSw); (try dsimp only at hSw); go_simp; (try with_reducible rfl))); (try simp only [Act.put, List.setIfInBounds_toArray, List.set_cons_zero, List.set_cons_succ, List.getElem_toArray, List.getElem_cons_zero, List.getElem_cons_succ])
          (refine takeOn (i := 4) (v := ?_) (by kernel_rfl) (by rfl) (by rfl) (by kernel_rfl) (by kernel_rfl) (by intro _ _ _ h; exact h) ?_ (by assumption) ?_); (rotate_left 1); (focus ((intro w hSw); (try dsimp only at hSw); go_simp; (try with_reducible rfl))); (try simp only [Act.put, List.setIfInBounds_toArray, List.set_cons_zero, List.set_cons_succ, List.getElem_toArray, List.getElem_cons_zero, List.getElem_cons_succ])
          (refine takeOn (i := 5) (v := ?_) (by kernel_rfl) (by rfl) (by rfl) (by kernel_rfl) (by kernel_rfl) (by intro _ _ _ h; exact h) ?_ (by assumption) ?_); (rotate_left 1); (focus ((intro w hSw); (try dsimp only at hSw); go_simp; (first | done | with_reducible rfl | (rw [if_neg]; (try simp only [ByteArray.size_append, ByteArray.size_mk, List.size_toArray, List.length_cons, List.length_nil]); omega) | trace_state))); (try simp only [Act.put, List.setIfInBounds_toArray, List.set_cons_zero, List.set_cons_succ, List.getElem_toArray, List.getElem_cons_zero, List.getElem_cons_succ])
          (refine takeOn (i := 6) (v := ?_) (by kernel_rfl) (by rfl) (by rfl) (by kernel_rfl) (by kernel_rfl) (by intro _ _ _ h; exact h) ?_ (by assumption) ?_); (rotate_left 1); (focus ((intro w hSw); (try dsimp only at hSw); go_simp; (try with_reducible rfl))); (try simp only [Act.put, List.setIfInBounds_toArray, List.set_cons_zero, List.set_cons_succ, List.getElem_toArray, List.getElem_cons_zero, List.getElem_cons_succ])
          (refine takeOn (i := 7) (v := ?_) (by kernel_rfl) (by rfl) (by rfl) (by kernel_rfl) (by kernel_rfl) (by intro _ _ _ h; exact h) ?_ (by assumption) ?_); (rotate_left 1); (focus ((intro w hSw); (try dsimp only at hSw); go_simp; (try with_reducible rfl))); (try simp only [Act.put, List.setIfInBounds_toArray, List.set_cons_zero, List.set_cons_succ, List.getElem_toArray, List.getElem_cons_zero, List.getElem_cons_succ])
          (refine takeOn (i := 8) (v := ?_) (by kernel_rfl) (by rfl) (by rfl) (by kernel_rfl) (by kernel_rfl) (by intro _ _ _ h; exact h) ?_ (by assumption) ?_); (rotate_left 1); (focus ((intro w hSw); (try dsimp only at hSw); go_simp; (try with_reducible rfl))); (try simp only [Act.put, List.setIfInBounds_toArray, List.set_cons_zero, List.set_cons_succ, List.getElem_toArray, List.getElem_cons_zero, List.getElem_cons_succ])
          (refine takeOn (i := 9) (v := ?_) (by kernel_rfl) (by rfl) (by rfl) (by kernel_rfl) (by kernel_rfl) (by intro _ _ _ h; exact h) ?_ (by assumption) ?_); (rotate_left 1); (focus ((intro w hSw); (try dsimp only at hSw); go_simp; (try with_reducible rfl))); (try simp only [Act.put, List.setIfInBounds_toArray, List.set_cons_zero, List.set_cons_succ, List.getElem_toArray, List.getElem_cons_zero, List.getElem_cons_succ])
          (refine takeOn (i := 10) (v := ?_) (by kernel_rfl) (by rfl) (by rfl) (by kernel_rfl) (by kernel_rfl) (by intro _ _ _ h; exact h) ?_ (by assumption) ?_); (rotate_left 1); (focus ((intro w hSw); (try dsimp only at hSw); go_simp; (first | done | with_reducible rfl | (rw [if_neg]; (try simp only [ByteArray.size_append, ByteArray.size_mk, List.size_toArray, List.length_cons, List.length_nil]); omega) | trace_state))); (try simp only [Act.put, List.setIfInBounds_toArray, List.set_cons_zero, List.set_cons_succ, List.getElem_toArray, List.getElem_cons_zero, List.getElem_cons_succ])
          (refine takeOn (i := 11) (v := ?_) (by kernel_rfl) (by rfl) (by rfl) (by kernel_rfl) (by kernel_rfl) (by intro _ _ _ h; exact h) ?_ (by assumption) ?_); (rotate_left 1); (focus ((intro w hSw); (try dsimp only at hSw); go_simp; (try with_reducible rfl))); (try simp only [Act.put, List.setIfInBounds_toArray, List.set_cons_zero, List.set_cons_succ, List.getElem_toArray, List.getElem_cons_zero, List.getElem_cons_succ])
          refine wpAnyH_done (by kernel_rfl) ?_ _
          go_wp2_with fail
          go_roundw
          case rel => exact ⟨m + 1, k + 1, by have := Hkm.out; omega, by omega, by go_num, hD6.drew⟩
          case measure => (simp [intOf]; omega)
        · have hlkI : ¬ (k : Int) < (M0.length : Int) := by omega
          have Hm : Hid (m = M0.length - (i + 1)) := Lib.hid (by have := Hkm.out; omega)
          rw [Hm.out] at hD
          go_wp2_with fail
          go_roundw
          case rel => exact ⟨i + 1, by omega, by go_num, hD⟩
          case measure => (simp [intOf]; omega)
    · have hin : i = M0.length := by omega
      have hltI : ¬ (i : Int) < (M0.length : Int) := by omega
      rw [hin] at hDo hltI ⊢
      clear hin hi
      obtain ⟨hML, hMb⟩ := dvChk_end Hck.out
      obtain ⟨M, hM⟩ : ∃ M, M = dvOut dvT M0.length M0 M0.length := ⟨_, rfl⟩
      have Hend : Hid (dvEnd dvT M0 = dvSum M M0.length) := Lib.hid (by rw [hM]; rfl)
      rw [← hM] at hDo hML hMb
      clear hM
      have Hsum := Lib.hid (dvSum_le M (by rw [hML]; exact hMb))
      have Hb := Lib.hid hMb
      clear hMb
      go_wp2_with fail
      go_loop [8, 9] (fun sv jv => ∃ j : Nat, j ≤ M0.length ∧ jv = .int .i64 j ∧ sv = .int .i64 (dvSum M j : Nat)) (fun _ jv => M0.length - (intOf jv).toNat)
      case atStart => exact ⟨0, by omega, rfl, rfl⟩
      case round =>
        obtain ⟨j, hj, rfl, rfl⟩ := hrel
        by_cases hlj : j < M0.length
        · have hljI : (j : Int) < (M0.length : Int) := by omega
          obtain ⟨g, rfl⟩ := hDo.at hlj
          have hix := dv_index g M0.length c
          have cj := (hDo.cell hlj).1
          have hs := Hsum.out j (by omega)
          have hbj := Hb.out j hlj
          have Hn : Hid (dvSum M (j + 1) = dvSum M j + nthN M j - 1) := Lib.hid rfl
          obtain ⟨S, hS⟩ : ∃ S, S = dvSum M j := ⟨_, rfl⟩
          obtain ⟨a, ha⟩ : ∃ a, a = nthN M j := ⟨_, rfl⟩
          rw [← hS] at hs Hn ⊢
          rw [← ha] at cj hbj Hn
          clear hS ha
          go_wp2_with fail
          go_round
          case rel => exact ⟨j + 1, by omega, by go_num, by rw [Hn.out]; go_num⟩
          case measure => (simp [intOf]; omega)
        · have hjn : j = M0.length := by omega
          have hljI : ¬ (j : Int) < (M0.length : Int) := by omega
          rw [hjn] at hljI ⊢
          clear hjn hj hlj
          go_wp2_with fail
          go_ret
          exact ⟨ret_int (by rw [Hend.out]), hW1.trans hDo.ext⟩
end Go.Zz
