/- The draws of the law on edits: kept counts. -/
import Derived.Test.YtgkojfjbfmpaaaaGr9
import Derived.Test.YtgkojfjbfmpaaaaGr10
import Derived.Test.YtgkojfjbfmpaaaaGr7
import Derived.Test.YtgkojfjbfmpaaaaGr11
import Derived.Deep.DeepCutAuto
namespace Go.Zz
open Go.RowKit Go.Proofs
set_option maxHeartbeats 4000000
set_option maxRecDepth 20000

theorem OwnK2.low {w0 w1 w : World} {c : Value} {l m : List Int} {n : Int} (h : OwnK2 w1 w c l n m) (hs : w0.heap.size ≤ w1.heap.size) : OwnK2 w0 w c l n m := by
  obtain ⟨v, u, rfl, h1, h2, h3⟩ := h; exact ⟨v, u, rfl, h1.low hs, h2.low hs, h3⟩
theorem setK2 {w0 w : World} {c : Value} {l m : List Int} {n : Int} (h : OwnK2 w0 w c l n m) {b i : Nat} {T : TypeId} {cs : Array Value} (hB : Blk w b T cs) (hT : T ≠ 3) (x : Value) : OwnK2 w0 (w.setCell ⟨b, i, none⟩ x) c l n m := by
  obtain ⟨v, u, rfl, h1, h2, h3⟩ := h
  exact ⟨v, u, rfl, h1.setCell_ne (p := ⟨b, i, none⟩) (h1.ne_blk hB hT) x, h2.setCell_ne (p := ⟨b, i, none⟩) (h2.ne_blk hB hT) x, h3⟩
/-- a kept value, written out -/
def KVal (aL : Option Addr) (nL cL : Nat) (N : Int) (aM : Option Addr) (nM cM : Nat) : Value := .agg #[.slice aL nL cL, .int .i64 N, .slice aM nM cM]
def KCells (aL : Option Addr) (nL cL : Nat) (N : Int) (aM : Option Addr) (nM cM : Nat) : Array Value := #[.slice aL nL cL, .int .i64 N, .slice aM nM cM]
/-- c is a kept value of its own -/
def KeptO (w w' : World) (c : Value) : Prop := ∃ aL L cL N aM M cM, c = KVal aL (List.length L) cL N aM (List.length M) cM ∧ OwnK2 w w' c L N M ∧ (-9223372036854775808 ≤ N ∧ N ≤ 9223372036854775807)
theorem KeptO.low {w0 w1 w : World} {c : Value} (h : KeptO w1 w c) (hs : w0.heap.size ≤ w1.heap.size) : KeptO w0 w c := by
  obtain ⟨aL, L, cL, N, aM, M, cM, rfl, h1, h2⟩ := h; exact ⟨aL, L, cL, N, aM, M, cM, rfl, h1.low hs, h2⟩
theorem KeptO.ext {w0 w w' : World} {c : Value} (h : KeptO w0 w c) (hE : Ext w w') : KeptO w0 w' c := by
  obtain ⟨aL, L, cL, N, aM, M, cM, rfl, h1, h2⟩ := h; exact ⟨aL, L, cL, N, aM, M, cM, rfl, h1.ext hE, h2⟩
theorem KeptO.set {w0 w : World} {c : Value} (h : KeptO w0 w c) {b i : Nat} {T : TypeId} {cs : Array Value} (hB : Blk w b T cs) (hT : T ≠ 3) (x : Value) : KeptO w0 (w.setCell ⟨b, i, none⟩ x) c := by
  obtain ⟨aL, L, cL, N, aM, M, cM, rfl, h1, h2⟩ := h; exact ⟨aL, L, cL, N, aM, M, cM, rfl, setK2 h1 hB hT x, h2⟩
theorem Drw.keptO {p : Nat} {w w' : World} (h : Drw p w w') {w0 : World} {c : Value} (hK : KeptO w0 w c) (hp : p < w0.heap.size) : KeptO w0 w' c := by
  obtain ⟨aL, L, cL, N, aM, M, cM, rfl, ⟨v, u, e, h1, h2, h3⟩, hN⟩ := hK
  exact ⟨aL, L, cL, N, aM, M, cM, rfl, ⟨v, u, e, h.own h1 hp, h.own h2 hp, h3⟩, hN⟩
def KZero : Array Value := #[.slice none 0 0, .int .i64 0, .slice none 0 0]
/-- what the second statement leaves -/
def K30 (w0 w wx : World) (p : Nat) (s4 s5 : Value) : Prop :=
  ∃ b x aL L cL N aM M cM, s4 = .pointer (some ⟨b, 0, none⟩) ∧ s5 = .bool x ∧ Blk wx b 28 #[.slice aL (List.length L) cL, .int .i64 N, .slice aM (List.length M) cM] ∧ OwnK2 w wx (.agg #[.slice aL (List.length L) cL, .int .i64 N, .slice aM (List.length M) cM]) L N M ∧
    (-9223372036854775808 ≤ N ∧ N ≤ 9223372036854775807) ∧ Blk wx w.heap.size 28 #[.slice none 0 0, .int .i64 0, .slice none 0 0] ∧ Cur w0 wx p ∧ Drw p w wx ∧ w.heap.size < b
theorem K30.fresh {w0 w W : World} {p : Nat} {x : Bool} {aL aM : Option Addr} {L M : List Int} {cL cM : Nat} {N : Int} (hK : OwnK2 w W (.agg #[.slice aL L.length cL, .int .i64 N, .slice aM M.length cM]) L N M) (hN : -9223372036854775808 ≤ N ∧ N ≤ 9223372036854775807)
    (hR : Blk W w.heap.size 28 #[.slice none 0 0, .int .i64 0, .slice none 0 0]) (hC : Cur w0 W p) (hF : Drw p w W) :
    K30 w0 w (W.alloc (.cells #[.slice aL L.length cL, .int .i64 N, .slice aM M.length cM] 28)) p (.pointer (some ⟨W.heap.size, 0, none⟩)) (.bool x) :=
  ⟨_, x, aL, L, cL, N, aM, M, cM, rfl, rfl, Blk.new _ _ _, hK.ext ((Ext.refl _).alloc _), hN, hR.alloc _, hC.alloc _, hF.alloc _, hR.lt⟩
theorem K30.store {w0 w W : World} {p b : Nat} {x : Bool} {aL aM : Option Addr} {L M : List Int} {cL cM : Nat} {N : Int} (hK : OwnK2 w W (.agg #[.slice aL L.length cL, .int .i64 N, .slice aM M.length cM]) L N M) (hN : -9223372036854775808 ≤ N ∧ N ≤ 9223372036854775807)
    (hR : Blk W w.heap.size 28 #[.slice none 0 0, .int .i64 0, .slice none 0 0]) (hC : Cur w0 W p) (hF : Drw p w W) (hB : Blk W b 28 #[.slice none 0 0, .int .i64 0, .slice none 0 0]) (hb : w.heap.size < b) (hp : p < w.heap.size) (h0 : w0.heap.size ≤ p) :
    K30 w0 w (((W.setCell ⟨b, 0, none⟩ (.slice aL L.length cL)).setCell ⟨b, 1, none⟩ (.int .i64 N)).setCell ⟨b, 2, none⟩ (.slice aM M.length cM)) p (.pointer (some ⟨b, 0, none⟩)) (.bool x) := by
  have B1 := hB.set 0 (.slice aL L.length cL)
  have B2 := B1.set 1 (.int .i64 N)
  have B3 := B2.set 2 (.slice aM M.length cM)
  have n1 : w.heap.size ≠ b := by omega
  exact ⟨b, x, aL, L, cL, N, aM, M, cM, rfl, rfl, B3, setK2 (setK2 (setK2 hK hB (by decide) _) B1 (by decide) _) B2 (by decide) _, hN, ((hR.other (p := ⟨b, 0, none⟩) n1 _).other (p := ⟨b, 1, none⟩) n1 _).other (p := ⟨b, 2, none⟩) n1 _, ((hC.other (by omega) (by omega) _).other (by omega) (by omega) _).other (by omega) (by omega) _, ((hF.set (by omega) _ _).set (by omega) _ _).set (by omega) _ _, hb⟩
theorem nkN_bd {l : List Int} {a : Int} : -9223372036854775808 ≤ nkN l a ∧ nkN l a ≤ 9223372036854775807 := by
  unfold nkN
  split
  · rename_i h
    obtain ⟨n, rfl, -, hn, -⟩ := isSetB_nat h
    omega
  · omega
theorem l30Kept_any (w0 w : World) (p : Nat) (h : Cur w0 w p) :
    Calls Try.prog 75 #[.pointer (some ⟨p, 0, none⟩)] w fun e w' => ∃ c, e = .returned c ∧ KeptO w w' c ∧ Cur w0 w' p ∧ Drw p w w' := by
  have hp := h.lt
  have hB0 : Blk (w.alloc (.cells #[.slice none 0 0, .int .i64 0, .slice none 0 0] 28)) w.heap.size 28 #[.slice none 0 0, .int .i64 0, .slice none 0 0] := Blk.new _ _ _
  have hs0 : (w.alloc (.cells #[.slice none 0 0, .int .i64 0, .slice none 0 0] 28)).heap.size = w.heap.size + 1 := by simp
  have hF0 := ((Ext.refl w).alloc (.cells #[.slice none 0 0, .int .i64 0, .slice none 0 0] 28)).drw p
  go_enter Try.func75, Try.ntmps75
  go_wp2_with fail
  refine (l2Any_any w0 _ p (h.alloc _)).mono ?_
  rintro e w2 ⟨ao, L, c, rfl, hO2, hC2, hF2⟩
  have hB2 := hF2.blk hB0 (by omega)
  have hs2 : w.heap.size + 1 ≤ w2.heap.size := by have := hF2.size; simp at this; omega
  have hF02 := hF0.trans hF2
  have hBg := Blk.new w2 26 #[.slice ao L.length c]
  have hB3 := hB2.alloc (.cells #[.slice ao L.length c] 26)
  have hO3 := hO2.alloc (.cells #[.slice ao L.length c] 26)
  have hC3 := hC2.alloc (.cells #[.slice ao L.length c] 26)
  have hF3 := hF02.alloc (.cells #[.slice ao L.length c] 26)
  obtain ⟨w3, hw3⟩ : ∃ x, x = w2.alloc (.cells #[.slice ao L.length c] 26) := ⟨_, rfl⟩
  have hs3 : w2.heap.size < w3.heap.size := by rw [hw3]; simp
  rw [← hw3] at hBg hB3 hO3 hC3 hF3
  have Hw3 := Lib.hid hw3
  have hpO : p < (w.alloc (.cells #[.slice none 0 0, .int .i64 0, .slice none 0 0] 28)).heap.size := by omega
  obtain ⟨wA, hwA⟩ : ∃ x, x = w.alloc (.cells #[.slice none 0 0, .int .i64 0, .slice none 0 0] 28) := ⟨_, rfl⟩
  rw [← hwA] at hO3 hpO hs0
  have hs0' : w.heap.size < wA.heap.size := by omega
  clear hw3 hB0 hF0 hB2 hF2 hC2 hO2 hF02 h hwA hs0
  go_wp2_with fail
  rw [← Hw3.out]
  go_upto_region 2 with fail
  go_cut [4, 5] (fun s4 s5 wx => K30 w0 w wx p s4 s5)
  case first =>
    have hCD := hC3.ext ((Ext.refl w3).drew)
    have hBgD := hBg.drew
    have hRD := hB3.drew
    have hOD := hO3.drew
    have hFD := hF3.trans (((Ext.refl w3).drew).drw p)
    have hCA := (hC3.alloc (.cells #[.slice none 0 0, .int .i64 0, .slice none 0 0] 28)).ext ((Ext.refl _).drew)
    have hBgA := (hBg.alloc (.cells #[.slice none 0 0, .int .i64 0, .slice none 0 0] 28)).drew
    have hRA := (hB3.alloc (.cells #[.slice none 0 0, .int .i64 0, .slice none 0 0] 28)).drew
    have hOA := (hO3.alloc (.cells #[.slice none 0 0, .int .i64 0, .slice none 0 0] 28)).drew
    have hFA := (hF3.alloc (.cells #[.slice none 0 0, .int .i64 0, .slice none 0 0] 28)).trans (((Ext.refl _).drew).drw p)
    have hKA := (Blk.new w3 28 #[.slice none 0 0, .int .i64 0, .slice none 0 0]).drew
    clear hC3 hBg hB3 hO3 hF3
    have hK4 := True.intro
    have hbd := fun a => nkN_bd (l := L) (a := a)
    refine wp_region_held_drew (S := (fun W => Cur w0 W p ∧ W.cell? ⟨w2.heap.size, 0, none⟩ = some (.slice ao L.length c))) (by kernel_rfl) (by exact ⟨hCD, hBgD.cell rfl⟩) (fun hHeld => ?_)
    (refine takeOn (i := 0) (v := ?_) (by kernel_rfl) (by rfl) (by rfl) (by kernel_rfl) (by kernel_rfl) (by intro _ _ _ h; exact h) ?_ (by assumption) ?_); (rotate_left 1); (focus ((intro w hSw); (try dsimp only at hSw); go_simp; (try with_reducible rfl))); (try simp only [Act.put, List.setIfInBounds_toArray, List.set_cons_zero, List.set_cons_succ, List.getElem_toArray, List.getElem_cons_zero, List.getElem_cons_succ])
    (refine takeOn (i := 1) (v := ?_) (by kernel_rfl) (by rfl) (by rfl) (by kernel_rfl) (by kernel_rfl) (by intro _ _ _ h; exact h) ?_ (by assumption) ?_); (rotate_left 1); (focus ((intro w hSw); (try dsimp only at hSw); go_simp; (try with_reducible rfl))); (try simp only [Act.put, List.setIfInBounds_toArray, List.set_cons_zero, List.set_cons_succ, List.getElem_toArray, List.getElem_cons_zero, List.getElem_cons_succ])
    (refine takeOn (i := 2) (v := ?_) (by kernel_rfl) (by rfl) (by rfl) (by kernel_rfl) (by kernel_rfl) (by intro _ _ _ h; exact h) ?_ (by assumption) ?_); (rotate_left 1); (focus ((intro w hSw); (try dsimp only at hSw); go_simp; (try with_reducible rfl))); (try simp only [Act.put, List.setIfInBounds_toArray, List.set_cons_zero, List.set_cons_succ, List.getElem_toArray, List.getElem_cons_zero, List.getElem_cons_succ])
    refine wpAnyH_ready (rs := [3, 8]) (by kernel_rfl) (by simp) ?_
    refine AllReadyH.cons (i := 3) (by rfl) (fun K hK => ?_) (AllReadyH.cons (i := 8) (by rfl) (fun K hK => ?_) (AllReadyH.nil))
    · rw [if_pos (by rfl)]
      go_simp; (go_at_call 143; (with_reducible refine Calls.mono (l3Set_any w0 _ wA p _ _ hHeld.1 (by first | with_reducible exact hOD | with_reducible exact hOA) hpO) ?_); rintro e w4 ⟨x, rfl, hx, hC4, hF4⟩; have hs4 : w3.heap.size ≤ w4.heap.size := (by have := hF4.size; simp at this; omega); have hBg4 : Blk w4 w2.heap.size 26 #[.slice ao L.length c] := hF4.blk (by first | with_reducible exact hBgD | with_reducible exact hBgA) (by omega); have hR4 : Blk w4 w.heap.size 28 #[.slice none 0 0, .int .i64 0, .slice none 0 0] := hF4.blk (by first | with_reducible exact hRD | with_reducible exact hRA) (by omega); have hO4 := hF4.own (TI := 3) (w0 := wA) (v := .slice ao L.length c) (l := L) (by first | with_reducible exact hOD | with_reducible exact hOA) hpO; have hF5 : Drw p w w4 := Drw.trans (by first | with_reducible exact hFD | with_reducible exact hFA) hF4; (try (have hK4 := hF4.blk hKA (by omega))); have hbN := hbd x)
      refine hK.out _ _ (by refine ⟨?_, Blk.cell (T := 26) (cs := #[.slice ao L.length c]) ?_ rfl⟩; (focus (repeat (first | (with_reducible assumption) | (with_reducible apply Cur.alloc) | (with_reducible refine Cur.other ?_ (by omega) (by omega) _)))); (repeat (first | (with_reducible assumption) | (with_reducible apply Blk.alloc) | (with_reducible refine Blk.other ?_ (by first | (show _ ≠ _; omega) | (simp; omega)) _)))) (fun hHeld => ?_)
      clear hK K
      (try simp only [Act.put, List.setIfInBounds_toArray, List.set_cons_zero, List.set_cons_succ, List.getElem_toArray, List.getElem_cons_zero, List.getElem_cons_succ])
      refine wpAnyH_ready (rs := [4, 8]) (by kernel_rfl) (by simp) ?_
      refine AllReadyH.cons (i := 4) (by rfl) (fun K hK => ?_) (AllReadyH.cons (i := 8) (by rfl) (fun K hK => ?_) (AllReadyH.nil))
      · rw [if_pos (by rfl)]
        go_simp; (go_at_call 23; (with_reducible refine Calls.mono (sNewKept_any _ L x _ (by first | with_reducible exact hO4.ints | with_reducible exact (hO4.alloc _).ints)) ?_); rintro e w5 ⟨cK, rfl, ⟨v1, v2, rfl, hk1, hk2, hkd⟩, hX5⟩; obtain ⟨aL, cL, rfl, -⟩ := hk1.shape; obtain ⟨aM, cM, rfl, -⟩ := hk2.shape; have hK5 : OwnK2 w w5 (.agg #[.slice aL (nkL L x).length cL, .int .i64 (nkN L x), .slice aM (tabF L x x).length cM]) (nkL L x) (nkN L x) (tabF L x x) := OwnK2.low ⟨_, _, rfl, hk1, hk2, hkd⟩ (by first | omega | (simp; omega)); have hE45 : Ext w4 w5 := Ext.trans (a := w4) (by repeat (first | assumption | exact Ext.refl _ | (apply And.left; assumption) | apply Ext.drew | apply Ext.alloc)) hX5; have hBg5 := hBg4.ext hE45; have hR5 := hR4.ext hE45; have hC5 := hC4.ext hE45; have hF6 := hF5.trans (hE45.drw p); have hs5 := hE45.size; (first | (have hKb : Blk w5 w3.heap.size 28 #[.slice none 0 0, .int .i64 0, .slice none 0 0] := hK4.ext hE45; have kb0 := hKb.cell (i := 0) (v := .slice none 0 0) rfl; have kb1 := hKb.cell (i := 1) (v := .int .i64 0) rfl; have kb2 := hKb.cell (i := 2) (v := .slice none 0 0) rfl; have fb0 := hKb.free 0; have fb1 := hKb.free 1; have fb2 := hKb.free 2) | (have hKb : Blk w5 w4.heap.size 28 #[.slice none 0 0, .int .i64 0, .slice none 0 0] := Blk.ext (Blk.new w4 28 #[.slice none 0 0, .int .i64 0, .slice none 0 0]) hX5; have kb0 := hKb.cell (i := 0) (v := .slice none 0 0) rfl; have kb1 := hKb.cell (i := 1) (v := .int .i64 0) rfl; have kb2 := hKb.cell (i := 2) (v := .slice none 0 0) rfl; have fb0 := hKb.free 0; have fb1 := hKb.free 1; have fb2 := hKb.free 2) | skip))
        refine hK.out _ _ (by refine ⟨?_, Blk.cell (T := 26) (cs := #[.slice ao L.length c]) ?_ rfl⟩; (focus (repeat (first | (with_reducible assumption) | (with_reducible apply Cur.alloc) | (with_reducible refine Cur.other ?_ (by omega) (by omega) _)))); (repeat (first | (with_reducible assumption) | (with_reducible apply Blk.alloc) | (with_reducible refine Blk.other ?_ (by first | (show _ ≠ _; omega) | (simp; omega)) _)))) (fun hHeld => ?_)
        clear hK K
        (try simp only [Act.put, List.setIfInBounds_toArray, List.set_cons_zero, List.set_cons_succ, List.getElem_toArray, List.getElem_cons_zero, List.getElem_cons_succ])
        (refine takeOn (i := 5) (v := ?_) (by kernel_rfl) (by rfl) (by rfl) (by kernel_rfl) (by kernel_rfl) (by intro _ _ _ h; exact h) ?_ (by assumption) ?_); (rotate_left 1); (focus ((intro w hSw); (try dsimp only at hSw); go_simp; (try with_reducible rfl))); (try simp only [Act.put, List.setIfInBounds_toArray, List.set_cons_zero, List.set_cons_succ, List.getElem_toArray, List.getElem_cons_zero, List.getElem_cons_succ])
        (refine takeOn (i := 6) (v := ?_) (by kernel_rfl) (by rfl) (by rfl) (by kernel_rfl) (by kernel_rfl) (by intro _ _ _ h; exact h) ?_ (by assumption) ?_); (rotate_left 1); (focus ((intro w hSw); (try dsimp only at hSw); go_simp; (try with_reducible rfl))); (try simp only [Act.put, List.setIfInBounds_toArray, List.set_cons_zero, List.set_cons_succ, List.getElem_toArray, List.getElem_cons_zero, List.getElem_cons_succ])
        (refine takeOn (i := 7) (v := ?_) (by kernel_rfl) (by rfl) (by rfl) (by kernel_rfl) (by kernel_rfl) (by intro _ _ _ h; exact h) ?_ (by assumption) ?_); (rotate_left 1); (focus ((intro w hSw); (try dsimp only at hSw); go_simp; (try with_reducible rfl))); (try simp only [Act.put, List.setIfInBounds_toArray, List.set_cons_zero, List.set_cons_succ, List.getElem_toArray, List.getElem_cons_zero, List.getElem_cons_succ])
        refine takeOne (i := 8) (by kernel_rfl) (by rfl) (by rfl) (fun K hK => ?_)
        go_simp
        refine hK.out _ _ (by refine ⟨?_, Blk.cell (T := 26) (cs := #[.slice ao L.length c]) ?_ rfl⟩; (focus (repeat (first | (with_reducible assumption) | (with_reducible apply Cur.alloc) | (with_reducible refine Cur.other ?_ (by omega) (by omega) _)))); (repeat (first | (with_reducible assumption) | (with_reducible apply Blk.alloc) | (with_reducible refine Blk.other ?_ (by first | (show _ ≠ _; omega) | (simp; omega)) _)))) (fun hHeld => ?_)
        clear hK K
        (try simp only [Act.put, List.setIfInBounds_toArray, List.set_cons_zero, List.set_cons_succ, List.getElem_toArray, List.getElem_cons_zero, List.getElem_cons_succ])
        refine takeOne (i := 9) (by kernel_rfl) (by rfl) (by rfl) (fun K hK => ?_)
        go_simp
        refine hK.out _ _ (by refine ⟨?_, Blk.cell (T := 26) (cs := #[.slice ao L.length c]) ?_ rfl⟩; (focus (repeat (first | (with_reducible assumption) | (with_reducible apply Cur.alloc) | (with_reducible refine Cur.other ?_ (by omega) (by omega) _)))); (repeat (first | (with_reducible assumption) | (with_reducible apply Blk.alloc) | (with_reducible refine Blk.other ?_ (by first | (show _ ≠ _; omega) | (simp; omega)) _)))) (fun hHeld => ?_)
        clear hK K
        (try simp only [Act.put, List.setIfInBounds_toArray, List.set_cons_zero, List.set_cons_succ, List.getElem_toArray, List.getElem_cons_zero, List.getElem_cons_succ])
        (refine takeOn (i := 10) (v := ?_) (by kernel_rfl) (by rfl) (by rfl) (by kernel_rfl) (by kernel_rfl) (by intro _ _ _ h; exact h) ?_ (by assumption) ?_); (rotate_left 1); (focus ((intro w hSw); (try dsimp only at hSw); go_simp; (try with_reducible rfl))); (try simp only [Act.put, List.setIfInBounds_toArray, List.set_cons_zero, List.set_cons_succ, List.getElem_toArray, List.getElem_cons_zero, List.getElem_cons_succ])
        refine wpAnyH_done (by kernel_rfl) ?_ _
        go_wp2_with fail
        go_meet
        first | exact K30.fresh hK5 hbN hR5 hC5 hF6 | exact K30.store hK5 hbN hR5 hC5 hF6 hKb (by omega) (by omega) (by omega)
      · rw [if_pos (by rfl)]
        go_simp
        refine hK.out _ _ (by refine ⟨?_, Blk.cell (T := 26) (cs := #[.slice ao L.length c]) ?_ rfl⟩; (focus (repeat (first | (with_reducible assumption) | (with_reducible apply Cur.alloc) | (with_reducible refine Cur.other ?_ (by omega) (by omega) _)))); (repeat (first | (with_reducible assumption) | (with_reducible apply Blk.alloc) | (with_reducible refine Blk.other ?_ (by first | (show _ ≠ _; omega) | (simp; omega)) _)))) (fun hHeld => ?_)
        clear hK K
        (try simp only [Act.put, List.setIfInBounds_toArray, List.set_cons_zero, List.set_cons_succ, List.getElem_toArray, List.getElem_cons_zero, List.getElem_cons_succ])
        refine takeOne (i := 4) (by kernel_rfl) (by rfl) (by rfl) (fun K hK => ?_)
        go_simp; (go_at_call 23; (with_reducible refine Calls.mono (sNewKept_any _ L x _ (by first | with_reducible exact hO4.ints | with_reducible exact (hO4.alloc _).ints)) ?_); rintro e w5 ⟨cK, rfl, ⟨v1, v2, rfl, hk1, hk2, hkd⟩, hX5⟩; obtain ⟨aL, cL, rfl, -⟩ := hk1.shape; obtain ⟨aM, cM, rfl, -⟩ := hk2.shape; have hK5 : OwnK2 w w5 (.agg #[.slice aL (nkL L x).length cL, .int .i64 (nkN L x), .slice aM (tabF L x x).length cM]) (nkL L x) (nkN L x) (tabF L x x) := OwnK2.low ⟨_, _, rfl, hk1, hk2, hkd⟩ (by first | omega | (simp; omega)); have hE45 : Ext w4 w5 := Ext.trans (a := w4) (by repeat (first | assumption | exact Ext.refl _ | (apply And.left; assumption) | apply Ext.drew | apply Ext.alloc)) hX5; have hBg5 := hBg4.ext hE45; have hR5 := hR4.ext hE45; have hC5 := hC4.ext hE45; have hF6 := hF5.trans (hE45.drw p); have hs5 := hE45.size; (first | (have hKb : Blk w5 w3.heap.size 28 #[.slice none 0 0, .int .i64 0, .slice none 0 0] := hK4.ext hE45; have kb0 := hKb.cell (i := 0) (v := .slice none 0 0) rfl; have kb1 := hKb.cell (i := 1) (v := .int .i64 0) rfl; have kb2 := hKb.cell (i := 2) (v := .slice none 0 0) rfl; have fb0 := hKb.free 0; have fb1 := hKb.free 1; have fb2 := hKb.free 2) | (have hKb : Blk w5 w4.heap.size 28 #[.slice none 0 0, .int .i64 0, .slice none 0 0] := Blk.ext (Blk.new w4 28 #[.slice none 0 0, .int .i64 0, .slice none 0 0]) hX5; have kb0 := hKb.cell (i := 0) (v := .slice none 0 0) rfl; have kb1 := hKb.cell (i := 1) (v := .int .i64 0) rfl; have kb2 := hKb.cell (i := 2) (v := .slice none 0 0) rfl; have fb0 := hKb.free 0; have fb1 := hKb.free 1; have fb2 := hKb.free 2) | skip))
        refine hK.out _ _ (by refine ⟨?_, Blk.cell (T := 26) (cs := #[.slice ao L.length c]) ?_ rfl⟩; (focus (repeat (first | (with_reducible assumption) | (with_reducible apply Cur.alloc) | (with_reducible refine Cur.other ?_ (by omega) (by omega) _)))); (repeat (first | (with_reducible assumption) | (with_reducible apply Blk.alloc) | (with_reducible refine Blk.other ?_ (by first | (show _ ≠ _; omega) | (simp; omega)) _)))) (fun hHeld => ?_)
        clear hK K
        (try simp only [Act.put, List.setIfInBounds_toArray, List.set_cons_zero, List.set_cons_succ, List.getElem_toArray, List.getElem_cons_zero, List.getElem_cons_succ])
        (refine takeOn (i := 5) (v := ?_) (by kernel_rfl) (by rfl) (by rfl) (by kernel_rfl) (by kernel_rfl) (by intro _ _ _ h; exact h) ?_ (by assumption) ?_); (rotate_left 1); (focus ((intro w hSw); (try dsimp only at hSw); go_simp; (try with_reducible rfl))); (try simp only [Act.put, List.setIfInBounds_toArray, List.set_cons_zero, List.set_cons_succ, List.getElem_toArray, List.getElem_cons_zero, List.getElem_cons_succ])
        (refine takeOn (i := 6) (v := ?_) (by kernel_rfl) (by rfl) (by rfl) (by kernel_rfl) (by kernel_rfl) (by intro _ _ _ h; exact h) ?_ (by assumption) ?_); (rotate_left 1); (focus ((intro w hSw); (try dsimp only at hSw); go_simp; (try with_reducible rfl))); (try simp only [Act.put, List.setIfInBounds_toArray, List.set_cons_zero, List.set_cons_succ, List.getElem_toArray, List.getElem_cons_zero, List.getElem_cons_succ])
        (refine takeOn (i := 7) (v := ?_) (by kernel_rfl) (by rfl) (by rfl) (by kernel_rfl) (by kernel_rfl) (by intro _ _ _ h; exact h) ?_ (by assumption) ?_); (rotate_left 1); (focus ((intro w hSw); (try dsimp only at hSw); go_simp; (try with_reducible rfl))); (try simp only [Act.put, List.setIfInBounds_toArray, List.set_cons_zero, List.set_cons_succ, List.getElem_toArray, List.getElem_cons_zero, List.getElem_cons_succ])
        refine takeOne (i := 9) (by kernel_rfl) (by rfl) (by rfl) (fun K hK => ?_)
        go_simp
        refine hK.out _ _ (by refine ⟨?_, Blk.cell (T := 26) (cs := #[.slice ao L.length c]) ?_ rfl⟩; (focus (repeat (first | (with_reducible assumption) | (with_reducible apply Cur.alloc) | (with_reducible refine Cur.other ?_ (by omega) (by omega) _)))); (repeat (first | (with_reducible assumption) | (with_reducible apply Blk.alloc) | (with_reducible refine Blk.other ?_ (by first | (show _ ≠ _; omega) | (simp; omega)) _)))) (fun hHeld => ?_)
        clear hK K
        (try simp only [Act.put, List.setIfInBounds_toArray, List.set_cons_zero, List.set_cons_succ, List.getElem_toArray, List.getElem_cons_zero, List.getElem_cons_succ])
        (refine takeOn (i := 10) (v := ?_) (by kernel_rfl) (by rfl) (by rfl) (by kernel_rfl) (by kernel_rfl) (by intro _ _ _ h; exact h) ?_ (by assumption) ?_); (rotate_left 1); (focus ((intro w hSw); (try dsimp only at hSw); go_simp; (try with_reducible rfl))); (try simp only [Act.put, List.setIfInBounds_toArray, List.set_cons_zero, List.set_cons_succ, List.getElem_toArray, List.getElem_cons_zero, List.getElem_cons_succ])
        refine wpAnyH_done (by kernel_rfl) ?_ _
        go_wp2_with fail
        go_meet
        first | exact K30.fresh hK5 hbN hR5 hC5 hF6 | exact K30.store hK5 hbN hR5 hC5 hF6 hKb (by omega) (by omega) (by omega)
    · rw [if_pos (by rfl)]
      go_simp
      refine hK.out _ _ (by refine ⟨?_, Blk.cell (T := 26) (cs := #[.slice ao L.length c]) ?_ rfl⟩; (focus (repeat (first | (with_reducible assumption) | (with_reducible apply Cur.alloc) | (with_reducible refine Cur.other ?_ (by omega) (by omega) _)))); (repeat (first | (with_reducible assumption) | (with_reducible apply Blk.alloc) | (with_reducible refine Blk.other ?_ (by first | (show _ ≠ _; omega) | (simp; omega)) _)))) (fun hHeld => ?_)
      clear hK K
      (try simp only [Act.put, List.setIfInBounds_toArray, List.set_cons_zero, List.set_cons_succ, List.getElem_toArray, List.getElem_cons_zero, List.getElem_cons_succ])
      refine takeOne (i := 3) (by kernel_rfl) (by rfl) (by rfl) (fun K hK => ?_)
      go_simp; (go_at_call 143; (with_reducible refine Calls.mono (l3Set_any w0 _ wA p _ _ hHeld.1 (by first | with_reducible exact hOD | with_reducible exact hOA) hpO) ?_); rintro e w4 ⟨x, rfl, hx, hC4, hF4⟩; have hs4 : w3.heap.size ≤ w4.heap.size := (by have := hF4.size; simp at this; omega); have hBg4 : Blk w4 w2.heap.size 26 #[.slice ao L.length c] := hF4.blk (by first | with_reducible exact hBgD | with_reducible exact hBgA) (by omega); have hR4 : Blk w4 w.heap.size 28 #[.slice none 0 0, .int .i64 0, .slice none 0 0] := hF4.blk (by first | with_reducible exact hRD | with_reducible exact hRA) (by omega); have hO4 := hF4.own (TI := 3) (w0 := wA) (v := .slice ao L.length c) (l := L) (by first | with_reducible exact hOD | with_reducible exact hOA) hpO; have hF5 : Drw p w w4 := Drw.trans (by first | with_reducible exact hFD | with_reducible exact hFA) hF4; (try (have hK4 := hF4.blk hKA (by omega))); have hbN := hbd x)
      refine hK.out _ _ (by refine ⟨?_, Blk.cell (T := 26) (cs := #[.slice ao L.length c]) ?_ rfl⟩; (focus (repeat (first | (with_reducible assumption) | (with_reducible apply Cur.alloc) | (with_reducible refine Cur.other ?_ (by omega) (by omega) _)))); (repeat (first | (with_reducible assumption) | (with_reducible apply Blk.alloc) | (with_reducible refine Blk.other ?_ (by first | (show _ ≠ _; omega) | (simp; omega)) _)))) (fun hHeld => ?_)
      clear hK K
      (try simp only [Act.put, List.setIfInBounds_toArray, List.set_cons_zero, List.set_cons_succ, List.getElem_toArray, List.getElem_cons_zero, List.getElem_cons_succ])
      refine takeOne (i := 4) (by kernel_rfl) (by rfl) (by rfl) (fun K hK => ?_)
      go_simp; (go_at_call 23; (with_reducible refine Calls.mono (sNewKept_any _ L x _ (by first | with_reducible exact hO4.ints | with_reducible exact (hO4.alloc _).ints)) ?_); rintro e w5 ⟨cK, rfl, ⟨v1, v2, rfl, hk1, hk2, hkd⟩, hX5⟩; obtain ⟨aL, cL, rfl, -⟩ := hk1.shape; obtain ⟨aM, cM, rfl, -⟩ := hk2.shape; have hK5 : OwnK2 w w5 (.agg #[.slice aL (nkL L x).length cL, .int .i64 (nkN L x), .slice aM (tabF L x x).length cM]) (nkL L x) (nkN L x) (tabF L x x) := OwnK2.low ⟨_, _, rfl, hk1, hk2, hkd⟩ (by first | omega | (simp; omega)); have hE45 : Ext w4 w5 := Ext.trans (a := w4) (by repeat (first | assumption | exact Ext.refl _ | (apply And.left; assumption) | apply Ext.drew | apply Ext.alloc)) hX5; have hBg5 := hBg4.ext hE45; have hR5 := hR4.ext hE45; have hC5 := hC4.ext hE45; have hF6 := hF5.trans (hE45.drw p); have hs5 := hE45.size; (first | (have hKb : Blk w5 w3.heap.size 28 #[.slice none 0 0, .int .i64 0, .slice none 0 0] := hK4.ext hE45; have kb0 := hKb.cell (i := 0) (v := .slice none 0 0) rfl; have kb1 := hKb.cell (i := 1) (v := .int .i64 0) rfl; have kb2 := hKb.cell (i := 2) (v := .slice none 0 0) rfl; have fb0 := hKb.free 0; have fb1 := hKb.free 1; have fb2 := hKb.free 2) | (have hKb : Blk w5 w4.heap.size 28 #[.slice none 0 0, .int .i64 0, .slice none 0 0] := Blk.ext (Blk.new w4 28 #[.slice none 0 0, .int .i64 0, .slice none 0 0]) hX5; have kb0 := hKb.cell (i := 0) (v := .slice none 0 0) rfl; have kb1 := hKb.cell (i := 1) (v := .int .i64 0) rfl; have kb2 := hKb.cell (i := 2) (v := .slice none 0 0) rfl; have fb0 := hKb.free 0; have fb1 := hKb.free 1; have fb2 := hKb.free 2) | skip))
      refine hK.out _ _ (by refine ⟨?_, Blk.cell (T := 26) (cs := #[.slice ao L.length c]) ?_ rfl⟩; (focus (repeat (first | (with_reducible assumption) | (with_reducible apply Cur.alloc) | (with_reducible refine Cur.other ?_ (by omega) (by omega) _)))); (repeat (first | (with_reducible assumption) | (with_reducible apply Blk.alloc) | (with_reducible refine Blk.other ?_ (by first | (show _ ≠ _; omega) | (simp; omega)) _)))) (fun hHeld => ?_)
      clear hK K
      (try simp only [Act.put, List.setIfInBounds_toArray, List.set_cons_zero, List.set_cons_succ, List.getElem_toArray, List.getElem_cons_zero, List.getElem_cons_succ])
      (refine takeOn (i := 5) (v := ?_) (by kernel_rfl) (by rfl) (by rfl) (by kernel_rfl) (by kernel_rfl) (by intro _ _ _ h; exact h) ?_ (by assumption) ?_); (rotate_left 1); (focus ((intro w hSw); (try dsimp only at hSw); go_simp; (try with_reducible rfl))); (try simp only [Act.put, List.setIfInBounds_toArray, List.set_cons_zero, List.set_cons_succ, List.getElem_toArray, List.getElem_cons_zero, List.getElem_cons_succ])
      (refine takeOn (i := 6) (v := ?_) (by kernel_rfl) (by rfl) (by rfl) (by kernel_rfl) (by kernel_rfl) (by intro _ _ _ h; exact h) ?_ (by assumption) ?_); (rotate_left 1); (focus ((intro w hSw); (try dsimp only at hSw); go_simp; (try with_reducible rfl))); (try simp only [Act.put, List.setIfInBounds_toArray, List.set_cons_zero, List.set_cons_succ, List.getElem_toArray, List.getElem_cons_zero, List.getElem_cons_succ])
      (refine takeOn (i := 7) (v := ?_) (by kernel_rfl) (by rfl) (by rfl) (by kernel_rfl) (by kernel_rfl) (by intro _ _ _ h; exact h) ?_ (by assumption) ?_); (rotate_left 1); (focus ((intro w hSw); (try dsimp only at hSw); go_simp; (try with_reducible rfl))); (try simp only [Act.put, List.setIfInBounds_toArray, List.set_cons_zero, List.set_cons_succ, List.getElem_toArray, List.getElem_cons_zero, List.getElem_cons_succ])
      refine takeOne (i := 9) (by kernel_rfl) (by rfl) (by rfl) (fun K hK => ?_)
      go_simp
      refine hK.out _ _ (by refine ⟨?_, Blk.cell (T := 26) (cs := #[.slice ao L.length c]) ?_ rfl⟩; (focus (repeat (first | (with_reducible assumption) | (with_reducible apply Cur.alloc) | (with_reducible refine Cur.other ?_ (by omega) (by omega) _)))); (repeat (first | (with_reducible assumption) | (with_reducible apply Blk.alloc) | (with_reducible refine Blk.other ?_ (by first | (show _ ≠ _; omega) | (simp; omega)) _)))) (fun hHeld => ?_)
      clear hK K
      (try simp only [Act.put, List.setIfInBounds_toArray, List.set_cons_zero, List.set_cons_succ, List.getElem_toArray, List.getElem_cons_zero, List.getElem_cons_succ])
      (refine takeOn (i := 10) (v := ?_) (by kernel_rfl) (by rfl) (by rfl) (by kernel_rfl) (by kernel_rfl) (by intro _ _ _ h; exact h) ?_ (by assumption) ?_); (rotate_left 1); (focus ((intro w hSw); (try dsimp only at hSw); go_simp; (try with_reducible rfl))); (try simp only [Act.put, List.setIfInBounds_toArray, List.set_cons_zero, List.set_cons_succ, List.getElem_toArray, List.getElem_cons_zero, List.getElem_cons_succ])
      refine wpAnyH_done (by kernel_rfl) ?_ _
      go_wp2_with fail
      go_meet
      first | exact K30.fresh hK5 hbN hR5 hC5 hF6 | exact K30.store hK5 hbN hR5 hC5 hF6 hKb (by omega) (by omega) (by omega)
  case rest =>
  obtain ⟨b, x, aL, LL, cL, N, aM, M, cM, rfl, rfl, hBk, hK, hN, hR, hC, hF, hb⟩ := hcut
  have k2 := hBk.cell (i := 2) (v := .slice aM M.length cM) rfl
  have hwb : w.heap.size < wc.heap.size := hR.lt
  by_cases hM : 0 < M.length
  · have hMI : (0 : Int) < (M.length : Int) := by omega
    go_wp2_with fail
    refine (l1Once_any w0 _ p 8 (by omega) hC).mono ?_
    rintro e w6 ⟨bb, rfl, hC6, hF6⟩
    have hBk6 := hF6.blk hBk (by omega)
    have hR6 := hF6.blk hR (by omega)
    obtain ⟨v1, v2, ev, h1, h2, hd⟩ := hK
    have hK6 : OwnK2 w w6 (.agg #[.slice aL LL.length cL, .int .i64 N, .slice aM M.length cM]) LL N M := ⟨v1, v2, ev, hF6.own h1 hp.2, hF6.own h2 hp.2, hd⟩
    have hF7 := hF.trans hF6
    clear k2 hBk hR h1 h2 hd ev hC hF hF6 v1 v2
    have hBk := hBk6
    have hR := hR6
    have hK := hK6
    have hC := hC6
    have hF := hF7
    clear hBk6 hR6 hK6 hC6 hF7
    cases bb
    · skip
      have k0 := hBk.cell (i := 0) (v := .slice aL LL.length cL) rfl
      have k1 := hBk.cell (i := 1) (v := .int .i64 N) rfl
      have k2 := hBk.cell (i := 2) (v := .slice aM M.length cM) rfl
      have r0 := hR.cell (i := 0) (v := .slice none 0 0) rfl
      have r1 := hR.cell (i := 1) (v := .int .i64 0) rfl
      have r2 := hR.cell (i := 2) (v := .slice none 0 0) rfl
      have f0 := hR.free 0
      have f1 := hR.free 1
      have f2 := hR.free 2
      have B1 := hR.set 0 (.slice aL LL.length cL)
      have B2 := B1.set 1 (.int .i64 N)
      have B3 := B2.set 2 (.slice aM M.length cM)
      have hK9 := setK2 (setK2 (setK2 hK hR (by decide) (i := 0) (.slice aL LL.length cL)) B1 (by decide) (i := 1) (.int .i64 N)) B2 (by decide) (i := 2) (.slice aM M.length cM)
      have hC9 := ((hC.other (b := w.heap.size) (i := 0) (by omega) (by omega) (.slice aL LL.length cL)).other (b := w.heap.size) (i := 1) (by omega) (by omega) (.int .i64 N)).other (b := w.heap.size) (i := 2) (by omega) (by omega) (.slice aM M.length cM)
      have hF9 := ((hF.set (b := w.heap.size) (Nat.le_refl _) 0 (.slice aL LL.length cL)).set (b := w.heap.size) (Nat.le_refl _) 1 (.int .i64 N)).set (b := w.heap.size) (Nat.le_refl _) 2 (.slice aM M.length cM)
      have q0 := B3.cell (i := 0) (v := .slice aL LL.length cL) rfl
      have q1 := B3.cell (i := 1) (v := .int .i64 N) rfl
      have q2 := B3.cell (i := 2) (v := .slice aM M.length cM) rfl
      clear B1 B2 B3
      go_wp2_with fail
      clear k0 k1 k2 r0 r1 r2 f0 f1 f2
      generalize ((w6.setCell ⟨w.heap.size, 0, none⟩ (.slice aL LL.length cL)).setCell ⟨w.heap.size, 1, none⟩ (.int .i64 N)).setCell ⟨w.heap.size, 2, none⟩ (.slice aM M.length cM) = w9 at hK9 hC9 hF9 q0 q1 q2 ⊢
      exact bodyPost_ret (v := .agg #[.slice aL LL.length cL, .int .i64 N, .slice aM M.length cM]) (by simp [results, Try.results75, go_sem, q0, q1, q2]) rfl ⟨_, rfl, ⟨aL, LL, cL, N, aM, M, cM, (by first | rfl | (simp [KVal, List.length_set])), hK9, hN⟩, hC9, hF9⟩
    · obtain ⟨v1, v2, ev, h1, h2, hd⟩ := hK
      simp only [Value.agg.injEq, Array.mk.injEq, List.cons.injEq, true_and, and_true] at ev
      obtain ⟨rfl, rfl⟩ := ev
      obtain ⟨gM, rfl, hg1, hg2⟩ := h2.row rfl hM
      have hixM := fun W => row_index gM M.length cM 0 W hM
      have kD := (hBk.drew).cell (i := 2) (v := .slice (some ⟨gM, 0, none⟩) M.length cM) rfl
      have hOl : Own 3 w6 (w6.alloc (.cells #[.int .i64 0, .int .i64 1, .int .i64 2, .int .i64 (-1)] 3)).drew (.slice (some ⟨w6.heap.size, 0, none⟩) 4 4) [0, 1, 2, -1] := (own_made (TI := 3) (n := 4) (by omega) (Ext.refl w6) [0, 1, 2, -1] rfl).drew
      have hCa := (hC.alloc (.cells #[.int .i64 0, .int .i64 1, .int .i64 2, .int .i64 (-1)] 3)).ext ((Ext.refl _).drew)
      have hBa := (hBk.alloc (.cells #[.int .i64 0, .int .i64 1, .int .i64 2, .int .i64 (-1)] 3)).drew
      have hRa := (hR.alloc (.cells #[.int .i64 0, .int .i64 1, .int .i64 2, .int .i64 (-1)] 3)).drew
      have h1a := (h1.alloc (.cells #[.int .i64 0, .int .i64 1, .int .i64 2, .int .i64 (-1)] 3)).drew
      have h2a := (h2.alloc (.cells #[.int .i64 0, .int .i64 1, .int .i64 2, .int .i64 (-1)] 3)).drew
      have hFa := (hF.alloc (.cells #[.int .i64 0, .int .i64 1, .int .i64 2, .int .i64 (-1)] 3)).trans (((Ext.refl _).drew).drw p)
      have hs6 : w.heap.size < w6.heap.size := hR.lt
      have hCd := hC.ext ((Ext.refl w6).drew)
      have kA := hBa.cell (i := 2) (v := .slice (some ⟨gM, 0, none⟩) M.length cM) rfl
      have hd2 : (Value.slice aL LL.length cL).ownBlock ≠ some gM := by
        rcases hd with hd | hd
        · rw [hd]; simp
        · simpa [Value.ownBlock] using hd
      go_wp2_with fail
      go_upto_region 4 with fail
      go_cut [] (fun wx => ∃ y : Int, Blk wx b 28 #[.slice aL LL.length cL, .int .i64 N, .slice (some ⟨gM, 0, none⟩) M.length cM] ∧ OwnK2 w wx (.agg #[.slice aL LL.length cL, .int .i64 N, .slice (some ⟨gM, 0, none⟩) M.length cM]) LL N (M.set 0 y) ∧ Blk wx w.heap.size 28 #[.slice none 0 0, .int .i64 0, .slice none 0 0] ∧ Cur w0 wx p ∧ Drw p w wx)
      case first =>
        refine wp_region_held_drew (S := (fun W => Cur w0 W p ∧ W.cell? ⟨b, 2, none⟩ = some (.slice (some ⟨gM, 0, none⟩) M.length cM))) (by kernel_rfl) (by exact ⟨hCd, kD⟩) (fun hHeld => ?_)
        (refine takeOn (i := 0) (v := ?_) (by kernel_rfl) (by rfl) (by rfl) (by kernel_rfl) (by kernel_rfl) (by intro _ _ _ h; exact h) ?_ (by assumption) ?_); (rotate_left 1); (focus ((intro w hSw); (try dsimp only at hSw); go_simp; (try with_reducible rfl))); (try simp only [Act.put, List.setIfInBounds_toArray, List.set_cons_zero, List.set_cons_succ, List.getElem_toArray, List.getElem_cons_zero, List.getElem_cons_succ])
        (refine takeOn (i := 1) (v := ?_) (by kernel_rfl) (by rfl) (by rfl) (by kernel_rfl) (by kernel_rfl) (by intro _ _ _ h; exact h) ?_ (by assumption) ?_); (rotate_left 1); (focus ((intro w hSw); (try dsimp only at hSw); go_simp; (try with_reducible rfl))); (try simp only [Act.put, List.setIfInBounds_toArray, List.set_cons_zero, List.set_cons_succ, List.getElem_toArray, List.getElem_cons_zero, List.getElem_cons_succ])
        (refine takeOn (i := 2) (v := ?_) (by kernel_rfl) (by rfl) (by rfl) (by kernel_rfl) (by kernel_rfl) (by intro _ _ _ h; exact h) ?_ (by assumption) ?_); (rotate_left 1); (focus ((intro w hSw); (try dsimp only at hSw); go_simp; (try with_reducible rfl))); (try simp only [Act.put, List.setIfInBounds_toArray, List.set_cons_zero, List.set_cons_succ, List.getElem_toArray, List.getElem_cons_zero, List.getElem_cons_succ])
        refine takeOne (i := 3) (by kernel_rfl) (by rfl) (by rfl) (fun K hK => ?_)
        go_simp
        refine hK.out _ _ (by first | exact ⟨hCa, kA⟩ | exact ⟨hC8, k8⟩ | exact ⟨hC9, k9⟩) (fun hHeld => ?_)
        clear hK K
        (try simp only [Act.put, List.setIfInBounds_toArray, List.set_cons_zero, List.set_cons_succ, List.getElem_toArray, List.getElem_cons_zero, List.getElem_cons_succ])
        refine takeOne (i := 4) (by kernel_rfl) (by rfl) (by rfl) (fun K hK => ?_)
        go_simp; (go_at_call 144; (with_reducible refine Calls.mono (l1PickInt_any w0 _ w6 p _ [0, 1, 2, -1] hHeld.1 hOl (by omega) (by decide) (by decide)) ?_); rintro e w8 ⟨kk, hkk, rfl, hC8, hF8⟩; obtain ⟨y, hy⟩ : ∃ y, y = nth [0, 1, 2, -1] kk := ⟨_, rfl⟩; rw [← hy]; have hB8 := hF8.blk hBa (by omega); have hR8 := hF8.blk hRa (by omega); have h18 := hF8.own h1a hp.2; have h28 := hF8.own h2a hp.2; have hF8' := hFa.trans hF8; have k8 := hB8.cell (i := 2) (v := .slice (some ⟨gM, 0, none⟩) M.length cM) rfl; have cg := (h28.cellAt rfl hM).1; have fg := (h28.cellAt rfl hM).2; have nb : b ≠ gM := (fun e => h28.ne_blk hB8 (by decide) (by rw [e]; rfl)); have nr : w.heap.size ≠ gM := (fun e => h28.ne_blk hR8 (by decide) (by rw [e]; rfl)); have hB9 := hB8.other (p := ⟨gM, 0, none⟩) nb (.int .i64 y); have hC9 := hC8.other (b := gM) (i := 0) (by omega) (by omega) (.int .i64 y); have k9 := hB9.cell (i := 2) (v := .slice (some ⟨gM, 0, none⟩) M.length cM) rfl; clear hy)
        refine hK.out _ _ (by first | exact ⟨hCa, kA⟩ | exact ⟨hC8, k8⟩ | exact ⟨hC9, k9⟩) (fun hHeld => ?_)
        clear hK K
        (try simp only [Act.put, List.setIfInBounds_toArray, List.set_cons_zero, List.set_cons_succ, List.getElem_toArray, List.getElem_cons_zero, List.getElem_cons_succ])
        (refine takeOn (i := 5) (v := ?_) (by kernel_rfl) (by rfl) (by rfl) (by kernel_rfl) (by kernel_rfl) (by intro _ _ _ h; exact h) ?_ (by assumption) ?_); (rotate_left 1); (focus ((intro w hSw); (try dsimp only at hSw); go_simp; (try with_reducible rfl))); (try simp only [Act.put, List.setIfInBounds_toArray, List.set_cons_zero, List.set_cons_succ, List.getElem_toArray, List.getElem_cons_zero, List.getElem_cons_succ])
        refine takeOne (i := 6) (by kernel_rfl) (by rfl) (by rfl) (fun K hK => ?_)
        go_simp
        refine hK.out _ _ (by first | exact ⟨hCa, kA⟩ | exact ⟨hC8, k8⟩ | exact ⟨hC9, k9⟩) (fun hHeld => ?_)
        clear hK K
        (try simp only [Act.put, List.setIfInBounds_toArray, List.set_cons_zero, List.set_cons_succ, List.getElem_toArray, List.getElem_cons_zero, List.getElem_cons_succ])
        refine wpAnyH_done (by kernel_rfl) ?_ _
        go_wp2_with fail
        go_meet
        exact ⟨y, hB9, ⟨_, _, rfl, h18.setCell_ne (p := ⟨gM, 0, none⟩) hd2 _, by have := h28.stored 0 y; exact ⟨this.1, this.2⟩, hd⟩, hR8.other (p := ⟨gM, 0, none⟩) nr _, hC9, hF8'.set hg1 0 _⟩
      case rest =>
      clear hBk hR hC hF kD hOl hCa hBa hRa h1a h2a hFa hCd kA h1 h2 hixM
      obtain ⟨y, hBk, hK, hR, hC, hF⟩ := hcut
      obtain ⟨aM, haM⟩ : ∃ x : Option Addr, x = some ⟨gM, 0, none⟩ := ⟨_, rfl⟩
      rw [← haM] at hBk hK
      clear haM
      have k0 := hBk.cell (i := 0) (v := .slice aL LL.length cL) rfl
      have k1 := hBk.cell (i := 1) (v := .int .i64 N) rfl
      have k2 := hBk.cell (i := 2) (v := .slice aM M.length cM) rfl
      have r0 := hR.cell (i := 0) (v := .slice none 0 0) rfl
      have r1 := hR.cell (i := 1) (v := .int .i64 0) rfl
      have r2 := hR.cell (i := 2) (v := .slice none 0 0) rfl
      have f0 := hR.free 0
      have f1 := hR.free 1
      have f2 := hR.free 2
      have B1 := hR.set 0 (.slice aL LL.length cL)
      have B2 := B1.set 1 (.int .i64 N)
      have B3 := B2.set 2 (.slice aM M.length cM)
      have hK9 := setK2 (setK2 (setK2 hK hR (by decide) (i := 0) (.slice aL LL.length cL)) B1 (by decide) (i := 1) (.int .i64 N)) B2 (by decide) (i := 2) (.slice aM M.length cM)
      have hC9 := ((hC.other (b := w.heap.size) (i := 0) (by omega) (by omega) (.slice aL LL.length cL)).other (b := w.heap.size) (i := 1) (by omega) (by omega) (.int .i64 N)).other (b := w.heap.size) (i := 2) (by omega) (by omega) (.slice aM M.length cM)
      have hF9 := ((hF.set (b := w.heap.size) (Nat.le_refl _) 0 (.slice aL LL.length cL)).set (b := w.heap.size) (Nat.le_refl _) 1 (.int .i64 N)).set (b := w.heap.size) (Nat.le_refl _) 2 (.slice aM M.length cM)
      have q0 := B3.cell (i := 0) (v := .slice aL LL.length cL) rfl
      have q1 := B3.cell (i := 1) (v := .int .i64 N) rfl
      have q2 := B3.cell (i := 2) (v := .slice aM M.length cM) rfl
      clear B1 B2 B3
      go_wp2_with fail
      clear k0 k1 k2 r0 r1 r2 f0 f1 f2
      generalize ((wc.setCell ⟨w.heap.size, 0, none⟩ (.slice aL LL.length cL)).setCell ⟨w.heap.size, 1, none⟩ (.int .i64 N)).setCell ⟨w.heap.size, 2, none⟩ (.slice aM M.length cM) = w9 at hK9 hC9 hF9 q0 q1 q2 ⊢
      exact bodyPost_ret (v := .agg #[.slice aL LL.length cL, .int .i64 N, .slice aM M.length cM]) (by simp [results, Try.results75, go_sem, q0, q1, q2]) rfl ⟨_, rfl, ⟨aL, LL, cL, N, aM, (M.set 0 y), cM, (by first | rfl | (simp [KVal, List.length_set])), hK9, hN⟩, hC9, hF9⟩
  · have hMI : ¬ (0 : Int) < (M.length : Int) := by omega
    have k0 := hBk.cell (i := 0) (v := .slice aL LL.length cL) rfl
    have k1 := hBk.cell (i := 1) (v := .int .i64 N) rfl
    have k2 := hBk.cell (i := 2) (v := .slice aM M.length cM) rfl
    have r0 := hR.cell (i := 0) (v := .slice none 0 0) rfl
    have r1 := hR.cell (i := 1) (v := .int .i64 0) rfl
    have r2 := hR.cell (i := 2) (v := .slice none 0 0) rfl
    have f0 := hR.free 0
    have f1 := hR.free 1
    have f2 := hR.free 2
    have B1 := hR.set 0 (.slice aL LL.length cL)
    have B2 := B1.set 1 (.int .i64 N)
    have B3 := B2.set 2 (.slice aM M.length cM)
    have hK9 := setK2 (setK2 (setK2 hK hR (by decide) (i := 0) (.slice aL LL.length cL)) B1 (by decide) (i := 1) (.int .i64 N)) B2 (by decide) (i := 2) (.slice aM M.length cM)
    have hC9 := ((hC.other (b := w.heap.size) (i := 0) (by omega) (by omega) (.slice aL LL.length cL)).other (b := w.heap.size) (i := 1) (by omega) (by omega) (.int .i64 N)).other (b := w.heap.size) (i := 2) (by omega) (by omega) (.slice aM M.length cM)
    have hF9 := ((hF.set (b := w.heap.size) (Nat.le_refl _) 0 (.slice aL LL.length cL)).set (b := w.heap.size) (Nat.le_refl _) 1 (.int .i64 N)).set (b := w.heap.size) (Nat.le_refl _) 2 (.slice aM M.length cM)
    have q0 := B3.cell (i := 0) (v := .slice aL LL.length cL) rfl
    have q1 := B3.cell (i := 1) (v := .int .i64 N) rfl
    have q2 := B3.cell (i := 2) (v := .slice aM M.length cM) rfl
    clear B1 B2 B3
    go_wp2_with fail
    clear k0 k1 k2 r0 r1 r2 f0 f1 f2
    generalize ((wc.setCell ⟨w.heap.size, 0, none⟩ (.slice aL LL.length cL)).setCell ⟨w.heap.size, 1, none⟩ (.int .i64 N)).setCell ⟨w.heap.size, 2, none⟩ (.slice aM M.length cM) = w9 at hK9 hC9 hF9 q0 q1 q2 ⊢
    exact bodyPost_ret (v := .agg #[.slice aL LL.length cL, .int .i64 N, .slice aM M.length cM]) (by simp [results, Try.results75, go_sem, q0, q1, q2]) rfl ⟨_, rfl, ⟨aL, LL, cL, N, aM, M, cM, (by first | rfl | (simp [KVal, List.length_set])), hK9, hN⟩, hC9, hF9⟩
end Go.Zz
