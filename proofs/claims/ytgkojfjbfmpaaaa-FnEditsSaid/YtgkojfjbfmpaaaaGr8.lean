/- Graphs: connection sets, distances, diameters. -/
import Derived.Test.YtgkojfjbfmpaaaaGr7
import Derived.Deep.RegionHeld3
import Derived.Test.YtgkojfjbfmpaaaaGr6
import Derived.Laws.EntriesVeiled
import Derived.Laws.OwnMore
namespace Go.Zz
open Go.RowKit Go.Proofs
set_option maxHeartbeats 400000

--%call in 61 same in_any _ _ ({0}) ({1}) _
theorem in_any (a x : Nat) (ha : a < 2 ^ 24) (hx : x ≤ 64) (w : World) :
    Calls Try.prog 61 #[.int .i64 a, .int .i64 x] w fun e w' => e = .returned (.bool (a.testBit x)) ∧ w = w' := by
  have hsh := ishr_nat (a := a) (n := x) hx
  have hbt := bit_test' (a := a) (n := x) (by omega) hx
  go_enter Try.func61, Try.ntmps61
  go_wp2_with fail
  go_ret
  exact ⟨rfl, rfl⟩
theorem in_val (a x : Nat) (ha : a < 2 ^ 24) (hx : x ≤ 64) (w : World) {b : Bool} (hb : a.testBit x = b) :
    Calls Try.prog 61 #[.int .i64 a, .int .i64 x] w fun e w' => e = .returned (.bool b) ∧ w = w' := by
  subst hb; exact in_any a x ha hx w
--%call hasV 60 ext has_val _ _ _ _ ({0}) ({1})
theorem has_any (v : Value) (l : List Int) (x : Int) (w : World) (h : Ints w v l) :
    Calls Try.prog 60 #[.agg #[v], .int .i64 x] w fun e w' => e = .returned (.bool (hasB l x)) ∧ Ext w w' := by
  obtain ⟨wb, hwb⟩ : ∃ wb, wb = w.alloc (.cells #[v] 26) := ⟨_, rfl⟩
  have hE0 := (Ext.refl w).alloc (.cells #[v] 26)
  have hb := box_cell w v 26
  rw [← hwb] at hE0 hb
  have hg : ∀ W, Ext wb W → Ints W v l := fun W hW => h.ext (hE0.trans hW)
  have hE := Ext.refl wb
  have Hsz : Hid (w.heap.size + 1 = wb.heap.size) := Lib.hid (by rw [hwb]; simp [go_sem])
  have Hwb := Lib.hid hwb
  clear hwb h
  have ho := ordF_bd l
  go_enter Try.func60, Try.ntmps60
  go_wp2_with fail
  rw [← Hwb.out]
  go_wp2_with (first | (go_at_call 81; refine (OrderOf_any _ _ _ (hg _ hE)).mono ?_; rintro e w' ⟨rfl, hE'⟩; replace hE := hE.trans hE'; clear hE') | (go_at_call 136; refine (within_any _ _ _ _).mono ?_; rintro e w' ⟨rfl, rfl⟩))
  go_ret
  exact ⟨rfl, hE0.trans hE⟩
theorem has_val (v : Value) (l : List Int) (x : Int) (w : World) (h : Ints w v l) {b : Bool} (hb : hasB l x = b) :
    Calls Try.prog 60 #[.agg #[v], .int .i64 x] w fun e w' => e = .returned (.bool b) ∧ Ext w w' := by
  subst hb; exact has_any v l x w h
--%call sOrderOf 41 ext sOrderOf_any _ _ _ ({0})
theorem sOrderOf_any (v : Value) (l : List Int) (w : World) (h : Ints w v l) :
    Calls Try.prog 41 #[.agg #[v]] w fun e w' => e = .returned (.int .i64 (ordF l)) ∧ Ext w w' := by
  obtain ⟨wb, hwb⟩ : ∃ wb, wb = w.alloc (.cells #[v] 26) := ⟨_, rfl⟩
  have hE0 := (Ext.refl w).alloc (.cells #[v] 26)
  have hb := box_cell w v 26
  rw [← hwb] at hE0 hb
  have hg : ∀ W, Ext wb W → Ints W v l := fun W hW => h.ext (hE0.trans hW)
  have hE := Ext.refl wb
  have Hsz : Hid (w.heap.size + 1 = wb.heap.size) := Lib.hid (by rw [hwb]; simp [go_sem])
  have Hwb := Lib.hid hwb
  clear hwb h
  cases hgr : isGrp l
  · have Ho := Lib.hid (ordF_f hgr)
    go_enter Try.func41, Try.ntmps41
    go_wp2_with fail
    rw [← Hwb.out]
    go_wp2_with (first | (go_at_call 90; refine (sIsGroup_any _ _ _ (hg _ hE)).mono ?_; rintro e w' ⟨rfl, hE'⟩; replace hE := hE.trans hE'; clear hE'))
    go_ret
    exact ⟨ret_int Ho.out.symm, hE0.trans hE⟩
  · have Ho := Lib.hid (ordF_t hgr)
    have Hgr := Lib.hid hgr
    go_enter Try.func41, Try.ntmps41
    go_wp2_with fail
    rw [← Hwb.out]
    go_wp2_with (first | (go_at_call 90; refine (sIsGroup_any _ _ _ (hg _ hE)).mono ?_; rintro e w' ⟨rfl, hE'⟩; replace hE := hE.trans hE'; clear hE') | (go_at_call 84; refine (l2Order_any _ _ _ (hg _ hE) (Hgr)).mono ?_; rintro e w' ⟨rfl, hE'⟩; replace hE := hE.trans hE'; clear hE'))
    go_ret
    exact ⟨ret_int Ho.out.symm, hE0.trans hE⟩
--%call l2IsV 62 ext l2Is_val _ _ _ _ ({0}) ({1})
theorem l2Is_any (v : Value) (l : List Int) (x : Int) (w : World) (h : Ints w v l) :
    Calls Try.prog 62 #[.agg #[v], .int .i64 x] w fun e w' => e = .returned (.bool (hasB l x)) ∧ Ext w w' := by
  obtain ⟨wb, hwb⟩ : ∃ wb, wb = w.alloc (.cells #[v] 26) := ⟨_, rfl⟩
  have hE0 := (Ext.refl w).alloc (.cells #[v] 26)
  have hb := box_cell w v 26
  rw [← hwb] at hE0 hb
  have hg : ∀ W, Ext wb W → Ints W v l := fun W hW => h.ext (hE0.trans hW)
  have hE := Ext.refl wb
  have Hsz : Hid (w.heap.size + 1 = wb.heap.size) := Lib.hid (by rw [hwb]; simp [go_sem])
  have Hwb := Lib.hid hwb
  clear hwb h
  have ho := ordF_bd l
  by_cases h0 : 0 ≤ x
  · by_cases h1 : x < ordF l
    · have Hh : Hid (hasB l x = true) := Lib.hid (inB_t.2 (by omega))
      go_enter Try.func62, Try.ntmps62
      go_wp2_with fail
      rw [← Hwb.out]
      go_wp2_with (first | (go_at_call 41; refine (sOrderOf_any _ _ _ (hg _ hE)).mono ?_; rintro e w' ⟨rfl, hE'⟩; replace hE := hE.trans hE'; clear hE'))
      go_ret
      exact ⟨ret_bool (by rw [Hh.out]), hE0.trans hE⟩
    · have Hh : Hid (hasB l x = false) := Lib.hid (inB_f.2 (by omega))
      have h1' : decide (x < ordF l) = false := by simp; omega
      go_enter Try.func62, Try.ntmps62
      go_wp2_with fail
      rw [← Hwb.out]
      go_wp2_with (first | (go_at_call 41; refine (sOrderOf_any _ _ _ (hg _ hE)).mono ?_; rintro e w' ⟨rfl, hE'⟩; replace hE := hE.trans hE'; clear hE'))
      go_ret
      exact ⟨ret_bool (by rw [Hh.out]), hE0.trans hE⟩
  · have Hh : Hid (hasB l x = false) := Lib.hid (inB_f.2 (by omega))
    have h0' : decide (0 ≤ x) = false := by simp; omega
    go_enter Try.func62, Try.ntmps62
    go_wp2_with fail
    rw [← Hwb.out]
    go_wp2_with (first | (go_at_call 41; refine (sOrderOf_any _ _ _ (hg _ hE)).mono ?_; rintro e w' ⟨rfl, hE'⟩; replace hE := hE.trans hE'; clear hE'))
    go_ret
    exact ⟨ret_bool (by rw [Hh.out]), hE0.trans hE⟩
theorem l2Is_val (v : Value) (l : List Int) (x : Int) (w : World) (h : Ints w v l) {b : Bool} (hb : hasB l x = b) :
    Calls Try.prog 62 #[.agg #[v], .int .i64 x] w fun e w' => e = .returned (.bool b) ∧ Ext w w' := by
  subst hb; exact l2Is_any v l x w h

theorem bit_zero_t {n : Nat} (h2 : n < 2 ^ 24) (h : n.testBit 0 = true) : iand (n : Int) 1 = 1 := by
  rw [Nat.testBit_zero] at h; rw [iand_one (by omega), of_decide_eq_true h]; rfl
theorem bit_zero_f {n : Nat} (h2 : n < 2 ^ 24) (h : n.testBit 0 = false) : iand (n : Int) 1 = 0 := by
  rw [Nat.testBit_zero] at h; rw [iand_one (by omega)]; have := of_decide_eq_false h; have h3 : n % 2 = 0 := by omega
  rw [h3]; rfl

end Go.Zz

/- The drawing of arguments: a cursor on bytes, what it leaves, numbers below a bound. -/
namespace Go.Zz
open Go.RowKit Go.Proofs
set_option maxHeartbeats 2000000
set_option maxRecDepth 8000

/-- v is a slice of bytes that reads as l in w -/
def Byts (w : World) (v : Value) (l : List Int) : Prop :=
  ∃ (ao : Option Addr) (c : Nat), v = .slice ao l.length c ∧ l.length ≤ 140737488355328 ∧ (∀ i, 0 ≤ nth l i ∧ nth l i ≤ 255) ∧
    ∀ i, i < l.length → ∃ a, ao = some a ∧ w.cell? (a.add i) = some (.int .u8 (nth l i))
theorem Byts.ext {w w' : World} {v : Value} {l : List Int} (h : Byts w v l) (hE : Ext w w') : Byts w' v l := by
  obtain ⟨ao, c, rfl, h1, h2, h3⟩ := h
  refine ⟨ao, c, rfl, h1, h2, fun i hi => ?_⟩
  obtain ⟨a, rfl, hc⟩ := h3 i hi
  exact ⟨a, rfl, hE.cell hc⟩
theorem Byts.op {w : World} {v : Value} {l : List Int} (h : Byts w v l) :
    ∃ (ao : Option Addr) (c : Nat) (adr : Nat → Addr), v = .slice ao l.length c ∧ l.length ≤ 140737488355328 ∧ (∀ i, 0 ≤ nth l i ∧ nth l i ≤ 255) ∧
      (∀ i, i < l.length → ao = some (adr 0) ∧ adr i = (adr 0).add i) ∧
      (∀ i W, i < l.length → Ext w W → W.cell? (adr i) = some (.int .u8 (nth l i))) := by
  obtain ⟨ao, c, rfl, h1, h2, h3⟩ := h
  refine ⟨ao, c, fun i => (ao.getD default).add i, rfl, by omega, h2, fun i hi => ?_, fun i W hi hW => ?_⟩
  · obtain ⟨a, rfl, hc⟩ := h3 i hi
    exact ⟨by simp [Addr.add], by simp [Addr.add]⟩
  · obtain ⟨a, rfl, hc⟩ := h3 i hi
    exact hW.cell (by simpa using hc)
theorem elY : Try.prog.underlying 22 = some (.slice (Try.prog.elem 22)) := by kernel_rfl
theorem szY : ∀ w, (Go.sizeOf (Try.prog.elem 22)).run Try.prog w = .ok 1 w := fun w => by kernel_rfl

/-- p is the block of a cursor on bytes that w0 holds -/
def Cur (w0 w : World) (p : Nat) : Prop :=
  ∃ (ao : Option Addr) (l : List Int) (c : Nat) (i : Nat) (h : Int), Blk w p 88 #[.slice ao l.length c, .int .i64 i, .int .i64 h] ∧ i ≤ l.length ∧ w0.heap.size ≤ p ∧ Byts w0 (.slice ao l.length c) l ∧ Ext w0 w
theorem Cur.lt {w0 w : World} {p : Nat} (h : Cur w0 w p) : w0.heap.size ≤ p ∧ p < w.heap.size := by
  obtain ⟨_, _, _, _, _, h1, _, h2, _⟩ := h; exact ⟨h2, h1.lt⟩
theorem Cur.ext {w0 w w' : World} {p : Nat} (h : Cur w0 w p) (hE : Ext w w') : Cur w0 w' p := by
  obtain ⟨ao, l, c, i, n, h1, h2, h3, h4, h5⟩ := h; exact ⟨ao, l, c, i, n, h1.ext hE, h2, h3, h4, h5.trans hE⟩
theorem Cur.base {w0 w : World} {p : Nat} (h : Cur w0 w p) : Ext w0 w := by obtain ⟨_, _, _, _, _, _, _, _, _, h⟩ := h; exact h
/-- a write to another new block leaves the cursor -/
theorem Cur.other {w0 w : World} {p : Nat} (h : Cur w0 w p) {b i : Nat} (h1 : p ≠ b) (h2 : w0.heap.size ≤ b) (v : Value) : Cur w0 (w.setCell ⟨b, i, none⟩ v) p := by
  obtain ⟨ao, l, c, k, n, g1, g2, g3, g4, g5⟩ := h; exact ⟨ao, l, c, k, n, g1.other h1 v, g2, g3, g4, g5.setCell h2 v⟩
/-- what a draw leaves: blocks but the cursor's -/
def Drw (p : Nat) (w w' : World) : Prop := Fr p none w w'
theorem Drw.blk {p : Nat} {w w' : World} (h : Drw p w w') {c : Nat} {T : TypeId} {cs : Array Value} (hB : Blk w c T cs) (hc : c ≠ p) : Blk w' c T cs := Fr.blk h hB hc (by simp)
theorem Drw.own {p : Nat} {w w' : World} (h : Drw p w w') {TI : TypeId} {w0 : World} {v : Value} {l : List Int} (hO : Own TI w0 w v l) (hp : p < w0.heap.size) : Own TI w0 w' v l := by
  refine Fr.own h hO (own_nb hO hp) ?_
  cases hv : v.ownBlock <;> simp
theorem Drw.trans {p : Nat} {w w1 w2 : World} (h : Drw p w w1) (k : Drw p w1 w2) : Drw p w w2 := Fr.trans h (Nw.refl _ _) k
theorem Drw.alloc {p : Nat} {w w' : World} (h : Drw p w w') (o : Obj) : Drw p w (w'.alloc o) := Fr.trans h (Nw.refl _ _) (((Ext.refl w').alloc o).fr p none)
theorem Cur.alloc {w0 w : World} {p : Nat} (h : Cur w0 w p) (o : Obj) : Cur w0 (w.alloc o) p := h.ext ((Ext.refl w).alloc o)
theorem Drw.set {p : Nat} {w w' : World} (h : Drw p w w') {b : Nat} (hb : w.heap.size ≤ b) (i : Nat) (v : Value) : Drw p w (w'.setCell ⟨b, i, none⟩ v) :=
  ⟨h.os, h.tape, h.output, by simpa using h.size, fun k hk h1 h2 => by rw [Below.heap_setCell _ _ _ _ (by show k ≠ b; omega)]; exact Fr.block h k hk h1 h2⟩
theorem Own.low {TI : TypeId} {w0 w1 w : World} {v : Value} {l : List Int} (h : Own TI w1 w v l) (hs : w0.heap.size ≤ w1.heap.size) : Own TI w0 w v l := ⟨ownsRow_mono h.1 hs, h.2⟩
theorem Drw.refl (p : Nat) (w : World) : Drw p w w := Fr.refl _ _ _
theorem Drw.size {p : Nat} {w w' : World} (h : Drw p w w') : w.heap.size ≤ w'.heap.size := Fr.size h
theorem Ext.drw {w w' : World} (h : Ext w w') (p : Nat) : Drw p w w' := h.fr p none

def ixor (x y : Int) : Int := bits .xor .i64 x y
@[go_sem high] theorem intBits_xor_i (x y : Int) : Op.intBits .xor .i64 x y = pure (.int .i64 (ixor x y)) := rfl
theorem iand_255 (x : Int) : 0 ≤ iand x 255 ∧ iand x 255 ≤ 255 := by
  have h : iand x 255 = ((((BitVec.ofInt IntKind.i64.bits x).toNat &&& 255 : Nat)) : Int) := by
    show IntKind.i64.wrap ((BitVec.ofInt IntKind.i64.bits x &&& BitVec.ofInt IntKind.i64.bits 255).toNat : Int) = _
    rw [BitVec.toNat_and]
    have e : (BitVec.ofInt IntKind.i64.bits (255 : Int)).toNat = 255 := by decide
    rw [e, wrap_nat]
    exact Nat.lt_of_le_of_lt Nat.and_le_right (by decide)
  have h2 : (BitVec.ofInt IntKind.i64.bits x).toNat &&& 255 ≤ 255 := Nat.and_le_right
  omega
theorem l1New_any (v : Value) (l : List Int) (w0 w : World) (h0 : Byts w0 v l) (hE0 : Ext w0 w) :
    Calls Try.prog 76 #[v] w fun e w' => ∃ p, e = .returned (.pointer (some ⟨p, 0, none⟩)) ∧ Cur w0 w' p ∧ Ext w w' ∧ w.heap.size ≤ p := by
  have h := h0.ext hE0
  have HB := Lib.hid h0
  have HE0 := Lib.hid hE0
  clear h0 hE0
  obtain ⟨ao, c, adr, rfl, hl, hb, hadr, hcell⟩ := h.op
  have hix := ints_index (c := c) elY szY hadr
  have Hcell := Lib.hid hcell
  clear hadr hcell h
  go_enter Try.func76, Try.ntmps76
  go_wp2_with fail
  go_loopw [3, 4] (fun sh si wr => ∃ (k : Nat) (h : Int), k ≤ l.length ∧ si = .int .i64 k ∧ sh = .int .i64 h ∧ Ext w wr) (fun _ si _ => l.length - (intOf si).toNat)
  case atStart => exact ⟨0, _, by omega, rfl, rfl, Ext.refl _⟩
  case round =>
    rename World => wr
    obtain ⟨k, h, hk, rfl, rfl, hE⟩ := hrel
    by_cases hlt : k < l.length
    · have hck := Hcell.out k wr hlt hE
      have hbk := hb k
      obtain ⟨x, hx⟩ : ∃ x, x = nth l k := ⟨_, rfl⟩
      rw [← hx] at hck hbk
      clear hx
      have hltI : (k : Int) < (l.length : Int) := by omega
      by_cases h4 : (k : Int) < 4000
      · go_wp2_with fail
        go_roundw
        case rel => exact ⟨k + 1, _, by omega, by go_num, rfl, hE⟩
        case measure => (simp [intOf]; omega)
      · go_wp2_with fail
        go_ret
        exact ⟨_, rfl, ⟨ao, l, c, 0, _, Blk.new _ _ _, Nat.zero_le _, Nat.le_trans HE0.out.size hE.size, HB.out, HE0.out.trans (hE.alloc _)⟩, hE.alloc _, hE.size⟩
    · have hltI : ¬ (k : Int) < (l.length : Int) := by omega
      go_wp2_with fail
      go_ret
      exact ⟨_, rfl, ⟨ao, l, c, 0, _, Blk.new _ _ _, Nat.zero_le _, Nat.le_trans HE0.out.size hE.size, HB.out, HE0.out.trans (hE.alloc _)⟩, hE.alloc _, hE.size⟩
theorem l1Byte_any (w0 w : World) (p : Nat) (h : Cur w0 w p) :
    Calls Try.prog 175 #[.pointer (some ⟨p, 0, none⟩)] w fun e w' => ∃ x, e = .returned (.int .i64 x) ∧ 0 ≤ x ∧ x ≤ 255 ∧ Cur w0 w' p ∧ Drw p w w' := by
  obtain ⟨ao, l, c, i, hv, hB, hi, hp, hY, hE0⟩ := h
  have HY := Lib.hid hY
  obtain ⟨ao', c', adr, hvY, hl, hb, hadr, hcell⟩ := hY.op
  simp only [Value.slice.injEq] at hvY
  obtain ⟨rfl, -, rfl⟩ := hvY
  have hix := ints_index (c := c) elY szY hadr
  have Hcell := Lib.hid hcell
  clear hadr hcell hY
  have k2 := hB.cell (i := 2) (v := .int .i64 hv) rfl
  have f2 := hB.free 2
  have HB := Lib.hid hB
  have HE0 := Lib.hid hE0
  clear hB hE0
  have hb2 : ∀ (W : World) (u : Value) (h' : Int), Blk W p 88 #[u, .int .i64 i, .int .i64 h'] → ∀ U, (Lat W U).cell? ⟨p, 0, none⟩ = some u ∧ (Lat W U).cell? ⟨p, 1, none⟩ = some (.int .i64 i) ∧ (Lat W U).cell? ⟨p, 2, none⟩ = some (.int .i64 h') := fun W u h' hB U =>
    ⟨(hB.ext (lat_ext W U)).cell rfl, (hB.ext (lat_ext W U)).cell rfl, (hB.ext (lat_ext W U)).cell rfl⟩
  have Hb2 := Lib.hid hb2
  clear hb2
  go_enter Try.func175, Try.ntmps175
  go_wp2_with fail
  generalize wrap64 (wrap64 (hv * 6364136223846793005) + 1442695040888963407) = h1
  have B1 : Blk (w.setCell ⟨p, 2, none⟩ (.int .i64 h1)) p 88 #[.slice ao l.length c, .int .i64 i, .int .i64 h1] := HB.out.set 2 _
  have E1 : Ext w0 (w.setCell ⟨p, 2, none⟩ (.int .i64 h1)) := HE0.out.setCell hp _
  have F1 : Drw p w (w.setCell ⟨p, 2, none⟩ (.int .i64 h1)) := fr_set _ _ _ _ _
  generalize w.setCell ⟨p, 2, none⟩ (.int .i64 h1) = w1 at B1 E1 F1 ⊢
  have HB1 := Lib.hid B1
  have HE1 := Lib.hid E1
  have HF1 := Lib.hid F1
  have hU := Hb2.out w1 _ _ B1
  have c0U := fun U => (hU U).1
  have c1U := fun U => (hU U).2.1
  have c2U := fun U => (hU U).2.2
  clear hU B1 E1 F1 k2 f2
  have hE := Ext.refl w1
  by_cases hil : i < l.length
  · have hilI : (i : Int) < (l.length : Int) := by omega
    have hbi := hb i
    have hciU := fun U => Hcell.out i (Lat w1 U) hil (HE1.out.trans (lat_ext w1 U))
    obtain ⟨y, hy⟩ : ∃ y, y = nth l i := ⟨_, rfl⟩
    rw [← hy] at hbi hciU
    clear hy
    have hixi := hix i
    (refine wp_region_lat (w1) (by kernel_rfl) (by kernel_rfl) hE ?_); (repeat (go_big_quiet_step (first | (fail "no call")))); (refine wpQuiet_nil ?_); (intro W hE'); (replace hE := lat_of hE'); (clear hE')
    go_wp2_with fail
    (refine wp_region_lat (w1) (by kernel_rfl) (by kernel_rfl) hE ?_); (repeat (go_big_quiet_step (first | (fail "no call")))); (refine wpQuiet_nil ?_); (intro W hE'); (replace hE := lat_of hE'); (clear hE')
    go_wp2_with fail
    (refine wp_region_lat (w1) (by kernel_rfl) (by kernel_rfl) hE ?_); (repeat (go_big_quiet_step (first | (fail "no call")))); (refine wpQuiet_nil ?_); (intro W hE'); (replace hE := lat_of hE'); (clear hE')
    rename World => w2
    have B2 := HB1.out.ext hE
    have k1 := B2.cell (i := 1) (v := .int .i64 i) rfl
    have f1 := B2.free 1
    have hwi : IntKind.i64.wrap ((i : Int) + 1) = ((i + 1 : Nat) : Int) := by rw [show (i : Int) + 1 = ((i + 1 : Nat) : Int) by omega]; exact wrap_nat (Nat.lt_of_le_of_lt (show i + 1 ≤ 140737488355329 by omega) (by decide))
    go_wp2_with fail
    go_ret
    have hx := iand_255 (wrap64 (iand (ixor (ishr h1 33) (ishr h1 45)) 255 + y))
    refine ⟨_, rfl, hx.1, hx.2, ⟨ao, l, c, i + 1, h1, ?_, by omega, hp, HY.out, (HE1.out.trans hE).setCell hp _⟩, HF1.out.trans ((hE.drw p).trans (fr_set _ _ _ _ _))⟩
    exact B2.set 1 _
  · have hilI : ¬ (i : Int) < (l.length : Int) := by omega
    (refine wp_region_lat (w1) (by kernel_rfl) (by kernel_rfl) hE ?_); (repeat (go_big_quiet_step (first | (fail "no call")))); (refine wpQuiet_nil ?_); (intro W hE'); (replace hE := lat_of hE'); (clear hE')
    go_wp2_with fail
    (refine wp_region_lat (w1) (by kernel_rfl) (by kernel_rfl) hE ?_); (repeat (go_big_quiet_step (first | (fail "no call")))); (refine wpQuiet_nil ?_); (intro W hE'); (replace hE := lat_of hE'); (clear hE')
    rename World => w2
    go_wp2_with fail
    go_ret
    have hx := iand_255 (ixor (ishr h1 33) (ishr h1 45))
    exact ⟨_, rfl, hx.1, hx.2, ⟨ao, l, c, i, h1, HB1.out.ext hE, hi, hp, HY.out, HE1.out.trans hE⟩, HF1.out.trans (hE.drw p)⟩
end Go.Zz

/- Plain facts on the search for a first largest set with a property that parts keep; cliques. No program is named here. -/
namespace Go.Zz
set_option linter.unusedVariables false

/-- the elements from fr on by which b may grow -/
def kidN (P : Nat → Bool) (N b fr : Nat) : Nat := bset ((List.range N).filter (fun x => decide (fr ≤ x) && P (b ||| 2 ^ x)))
theorem kidN_bit {P : Nat → Bool} {N b fr i : Nat} : (kidN P N b fr).testBit i = (decide (i < N) && (decide (fr ≤ i) && P (b ||| 2 ^ i))) := by
  unfold kidN; rw [testBit_bset, Bool.eq_iff_iff]; simp [List.mem_filter]
theorem kidN_lt (P : Nat → Bool) (N b fr : Nat) : kidN P N b fr < 2 ^ N := bset_lt fun _ hx => List.mem_range.1 (List.mem_filter.1 hx).1
def fsS (P : Nat → Bool) (N : Nat) : Nat → Nat → Nat → Nat
  | 0, b, _ => b
  | f + 1, b, fr => (elems (kidN P N b fr)).foldl (fun (best x : Nat) => if cnt best < cnt (fsS P N f (b ||| 2 ^ x) (x + 1)) then fsS P N f (b ||| 2 ^ x) (x + 1) else best) b
def fsSto (P : Nat → Bool) (N f b fr k : Nat) : Nat := ((elems (kidN P N b fr)).take k).foldl (fun (best x : Nat) => if cnt best < cnt (fsS P N f (b ||| 2 ^ x) (x + 1)) then fsS P N f (b ||| 2 ^ x) (x + 1) else best) b
theorem fsS_end (P : Nat → Bool) (N f b fr : Nat) : fsS P N (f + 1) b fr = fsSto P N f b fr (elems (kidN P N b fr)).length := by unfold fsSto; rw [List.take_length]; rfl
theorem fsSto_zero (P : Nat → Bool) (N f b fr : Nat) : fsSto P N f b fr 0 = b := rfl
theorem fsSto_more {P : Nat → Bool} {N f b fr k : Nat} (hk : k < (elems (kidN P N b fr)).length) (h : cnt (fsSto P N f b fr k) < cnt (fsS P N f (b ||| 2 ^ nthN (elems (kidN P N b fr)) k) (nthN (elems (kidN P N b fr)) k + 1))) :
    fsSto P N f b fr (k + 1) = fsS P N f (b ||| 2 ^ nthN (elems (kidN P N b fr)) k) (nthN (elems (kidN P N b fr)) k + 1) := by
  unfold fsSto at h ⊢; rw [take_nthN _ _ hk, List.foldl_append]; simp only [List.foldl_cons, List.foldl_nil]; rw [if_pos h]
theorem fsSto_less {P : Nat → Bool} {N f b fr k : Nat} (hk : k < (elems (kidN P N b fr)).length) (h : ¬ cnt (fsSto P N f b fr k) < cnt (fsS P N f (b ||| 2 ^ nthN (elems (kidN P N b fr)) k) (nthN (elems (kidN P N b fr)) k + 1))) :
    fsSto P N f b fr (k + 1) = fsSto P N f b fr k := by
  unfold fsSto at h ⊢; rw [take_nthN _ _ hk, List.foldl_append]; simp only [List.foldl_cons, List.foldl_nil]; rw [if_neg h]
/-- the same with the best one so far and its size -/
def fsI (P : Nat → Bool) (N : Nat) : Nat → Nat → Nat → Nat → Nat × Int → Nat × Int
  | 0, b, n, _, s => if s.2 < n then (b, n) else s
  | f + 1, b, n, fr, s => (elems (kidN P N b fr)).foldl (fun (s : Nat × Int) (x : Nat) => fsI P N f (b ||| 2 ^ x) (n + 1) (x + 1) s) (if s.2 < n then (b, n) else s)
/-- after the elements below k -/
def fsIto (P : Nat → Bool) (N f b n fr : Nat) (s : Nat × Int) (k : Nat) : Nat × Int := (elemsTo (kidN P N b fr) k).foldl (fun (s : Nat × Int) (x : Nat) => fsI P N f (b ||| 2 ^ x) (n + 1) (x + 1) s) (if s.2 < n then (b, n) else s)
theorem fsI_end {P : Nat → Bool} {N : Nat} (hN : N ≤ 24) (f b n fr : Nat) (s : Nat × Int) : fsI P N (f + 1) b n fr s = fsIto P N f b n fr s N := by
  unfold fsIto; rw [elemsTo_all hN (kidN_lt P N b fr)]; rfl
theorem elemsTo_nil0 {a k : Nat} (h : ∀ i, i < k → a.testBit i = false) : elemsTo a k = [] := by
  unfold elemsTo; rw [List.filter_eq_nil_iff]; intro i hi; rw [h i (List.mem_range.1 hi)]; simp
theorem fsIto_start {P : Nat → Bool} {N f b n fr : Nat} {s : Nat × Int} : fsIto P N f b n fr s fr = if s.2 < n then (b, (n : Int)) else s := by
  unfold fsIto; rw [elemsTo_nil0 fun i hi => by rw [kidN_bit]; simp; intro _ h; omega]; rfl
theorem fsIto_yes {P : Nat → Bool} {N f b n fr k : Nat} {s : Nat × Int} (h1 : k < N) (h2 : fr ≤ k) (h : P (b ||| 2 ^ k) = true) : fsIto P N f b n fr s (k + 1) = fsI P N f (b ||| 2 ^ k) (n + 1) (k + 1) (fsIto P N f b n fr s k) := by
  unfold fsIto; rw [elemsTo_succ, show (kidN P N b fr).testBit k = true by rw [kidN_bit, h]; simp [h1, h2], if_pos rfl, List.foldl_append]; rfl
theorem fsIto_no {P : Nat → Bool} {N f b n fr k : Nat} {s : Nat × Int} (h : P (b ||| 2 ^ k) = false) : fsIto P N f b n fr s (k + 1) = fsIto P N f b n fr s k := by
  unfold fsIto; rw [elemsTo_succ, show (kidN P N b fr).testBit k = false by rw [kidN_bit, h]; simp]; simp
theorem bit_two (x i : Nat) : (2 ^ x).testBit i = decide (x = i) := Nat.testBit_two_pow
theorem cnt_or_new {b x : Nat} (hb : b < 2 ^ 24) (hx : x < 24) (h : b.testBit x = false) : cnt (b ||| 2 ^ x) = cnt b + 1 := by
  have h1 := cnt_sub (Sub.or_left b (2 ^ x))
  have e : andN (b ||| 2 ^ x) b = 2 ^ x := Nat.eq_of_testBit_eq fun i => by
    rw [andN_bit, Nat.testBit_or, bit_two]
    by_cases hi : x = i
    · subst hi; simp [h]
    · simp [hi]
  rw [e] at h1
  have h2 : elems (2 ^ x) = (List.range 24).filter (fun i => decide (x = i)) := by unfold elems; congr 1; funext i; exact bit_two x i
  have h3 : cnt (2 ^ x) = 1 := by
    unfold cnt; rw [h2]
    have : ∀ n, x < n → ((List.range n).filter (fun i => decide (x = i))).length = 1 := by
      intro n
      induction n with
      | zero => omega
      | succ n ih =>
        intro hn
        rw [List.range_succ, List.filter_append, List.length_append]
        by_cases hxn : x = n
        · subst hxn
          have : (List.range x).filter (fun i => decide (x = i)) = [] := by rw [List.filter_eq_nil_iff]; intro i hi; have := List.mem_range.1 hi; simp; omega
          rw [this]; simp
        · rw [ih (by omega)]; simp [hxn]
    exact this 24 hx
  omega
/-- both searches find the same -/
theorem fsI_eq (P : Nat → Bool) (N : Nat) (hN : N ≤ 24) : ∀ (f b fr : Nat) (s : Nat × Int), b < 2 ^ fr → fr ≤ N → fsI P N f b (cnt b) fr s = if s.2 < cnt (fsS P N f b fr) then (fsS P N f b fr, (cnt (fsS P N f b fr) : Int)) else s := by
  intro f
  induction f with
  | zero => intro b fr s _ _; rfl
  | succ f ih =>
    intro b fr s hb hfr
    unfold fsI fsS
    have key : ∀ (L : List Nat), (∀ x ∈ L, fr ≤ x ∧ x < N) → ∀ r, (L.foldl (fun (s : Nat × Int) (x : Nat) => fsI P N f (b ||| 2 ^ x) (cnt b + 1) (x + 1) s) (if s.2 < cnt r then (r, (cnt r : Int)) else s)) =
        (if s.2 < cnt (L.foldl (fun (best x : Nat) => if cnt best < cnt (fsS P N f (b ||| 2 ^ x) (x + 1)) then fsS P N f (b ||| 2 ^ x) (x + 1) else best) r) then (L.foldl (fun (best x : Nat) => if cnt best < cnt (fsS P N f (b ||| 2 ^ x) (x + 1)) then fsS P N f (b ||| 2 ^ x) (x + 1) else best) r, (cnt (L.foldl (fun (best x : Nat) => if cnt best < cnt (fsS P N f (b ||| 2 ^ x) (x + 1)) then fsS P N f (b ||| 2 ^ x) (x + 1) else best) r) : Int)) else s) := by
      intro L
      induction L with
      | nil => intro _ r; rfl
      | cons x L ih2 =>
        intro hL r
        obtain ⟨hx1, hx2⟩ := hL x (by simp)
        have hbx : b.testBit x = false := testBit_ge hb hx1
        have hb24 : b < 2 ^ 24 := Nat.lt_of_lt_of_le hb (Nat.pow_le_pow_right (by omega) (by omega))
        have hc := cnt_or_new hb24 (show x < 24 by omega) hbx
        have hb2 : b ||| 2 ^ x < 2 ^ (x + 1) := Nat.or_lt_two_pow (Nat.lt_of_lt_of_le hb (Nat.pow_le_pow_right (by omega) (by omega))) (Nat.pow_lt_pow_right (by omega) (by omega))
        simp only [List.foldl_cons]
        have e := fun s => ih (b ||| 2 ^ x) (x + 1) s hb2 (by omega)
        rw [hc] at e
        have e2 : fsI P N f (b ||| 2 ^ x) (cnt b + 1) (x + 1) (if s.2 < cnt r then (r, (cnt r : Int)) else s) =
            (if s.2 < cnt (if cnt r < cnt (fsS P N f (b ||| 2 ^ x) (x + 1)) then fsS P N f (b ||| 2 ^ x) (x + 1) else r) then ((if cnt r < cnt (fsS P N f (b ||| 2 ^ x) (x + 1)) then fsS P N f (b ||| 2 ^ x) (x + 1) else r), (cnt (if cnt r < cnt (fsS P N f (b ||| 2 ^ x) (x + 1)) then fsS P N f (b ||| 2 ^ x) (x + 1) else r) : Int)) else s) := by
          rw [e]
          generalize fsS P N f (b ||| 2 ^ x) (x + 1) = y
          by_cases h1 : s.2 < cnt r <;> by_cases h2 : cnt r < cnt y <;> by_cases h3 : s.2 < cnt y <;> simp [h1, h2, h3] <;> omega
        rw [e2]
        exact ih2 (fun y hy => hL y (by simp [hy])) _
    refine key _ (fun x hx => ?_) b
    have := (mem_elems.1 hx).2
    rw [kidN_bit] at this
    simp at this; omega

theorem fsS_lt (P : Nat → Bool) (N : Nat) (hN : N ≤ 24) : ∀ (f b fr : Nat), b < 2 ^ 24 → fsS P N f b fr < 2 ^ 24 := by
  intro f
  induction f with
  | zero => intro b fr h; exact h
  | succ f ih =>
    intro b fr h
    unfold fsS
    have key : ∀ (L : List Nat), (∀ x ∈ L, x < 24) → ∀ r, r < 2 ^ 24 → L.foldl (fun (best x : Nat) => if cnt best < cnt (fsS P N f (b ||| 2 ^ x) (x + 1)) then fsS P N f (b ||| 2 ^ x) (x + 1) else best) r < 2 ^ 24 := by
      intro L
      induction L with
      | nil => intro _ r hr; exact hr
      | cons x L ih2 =>
        intro hL r hr
        simp only [List.foldl_cons]
        refine ih2 (fun y hy => hL y (by simp [hy])) _ ?_
        split
        · exact ih _ _ (Nat.or_lt_two_pow h (Nat.pow_lt_pow_right (by omega) (hL x (by simp))))
        · exact hr
    exact key _ (fun x hx => elems_lt hx) b h

/-! ### cliques -/
def cliP (l : List Int) (a b : Nat) : Bool := decide (andN (sumF l b (oppF l b)) (a ||| 1) = 0)
theorem cliP_iff {l : List Int} (hg : isGrp l = true) {a b : Nat} : cliP l a b = true ↔ ∀ y z, y < 24 → z < 24 → b.testBit y = true → b.testBit z = true → (a ||| 1).testBit (addF l y (negF l z)) = true := by
  unfold cliP
  rw [decide_eq_true_iff, andN_zero]
  constructor
  · intro h y z hy hz hby hbz
    exact h _ (testBit_sumF.2 ⟨y, negF l z, hy, hby, negF_bd hg z, testBit_oppF.2 ⟨z, hz, hbz, rfl⟩, rfl⟩)
  · intro h i hi
    obtain ⟨y, w, hy, hby, _, hw, rfl⟩ := testBit_sumF.1 hi
    obtain ⟨z, hz, hbz, rfl⟩ := testBit_oppF.1 hw
    exact h y z hy hz hby hbz
theorem addF_zero' {l : List Int} (h : Ords l) {x : Nat} (hx : x < ord l) : addF l x 0 = x := by rw [addF_comm]; exact addF_zero l h x hx
theorem neg_neg {l : List Int} (h : Ords l) {x : Nat} (hx : x < ord l) : negF l (negF l x) = x := by
  have h1 : addF l (negF l x) (negF l (negF l x)) = addF l (negF l x) x := by rw [addF_neg l h, addF_comm, addF_neg l h]
  exact addF_cancel h (negF_lt l h _) hx h1
/-- z = y + (z - y) -/
theorem add_sub {l : List Int} (h : Ords l) {y z : Nat} (hz : z < ord l) : addF l y (addF l z (negF l y)) = z := by
  rw [addF_comm l z, ← addF_assoc l h, addF_neg l h, addF_zero l h _ hz]
theorem neg_sub {l : List Int} (h : Ords l) {y z : Nat} (hy : y < ord l) (hz : z < ord l) : negF l (addF l y (negF l z)) = addF l z (negF l y) := by
  have e : addF l (addF l y (negF l z)) (addF l z (negF l y)) = 0 := by
    rw [addF_assoc l h, ← addF_assoc l h (negF l z), addF_comm l (negF l z) z, addF_neg l h, addF_zero l h _ (negF_lt l h _), addF_neg l h]
  exact (addF_cancel h (addF_lt l h _ _) (negF_lt l h _) (by rw [e, addF_neg l h])).symm
theorem one_bit (i : Nat) : (1 : Nat).testBit i = decide (i = 0) := by
  have := bit_two 0 i; rw [show (2:Nat) ^ 0 = 1 from rfl] at this; rw [this, Bool.eq_iff_iff]; simp; exact eq_comm
theorem conn_self (l : List Int) (h : Ords l) (a y : Nat) : (a ||| 1).testBit (addF l y (negF l y)) = true := by rw [addF_neg l h, Nat.testBit_or, one_bit]; simp
/-- joined by i - x -/
theorem conn_iff {l : List Int} (hg : isGrp l = true) {a x i : Nat} (ha : a < 2 ^ ord l) (hx : x < ord l) (hi : i < ord l) (hne : x ≠ i) : (a ||| 1).testBit (addF l i (negF l x)) = (shiftF l a x).testBit i := by
  have h := isGrp_ords hg
  have h0 : addF l i (negF l x) ≠ 0 := fun e => by
    have := add_sub h (y := x) hi
    rw [e, addF_zero' h hx] at this; exact hne this
  rw [Nat.testBit_or, one_bit, show decide (addF l i (negF l x) = 0) = false from decide_eq_false h0, Bool.or_false]
  refine bool_eq_of ⟨fun e => testBit_shiftF.2 ⟨_, addF_bd hg _ _, e, add_sub h hi⟩, fun e => ?_⟩
  obtain ⟨y, hy, hay, he⟩ := testBit_shiftF.1 e
  rw [← he, addF_comm l x y, addF_assoc l h, addF_neg l h, addF_zero' h (bit_lt ha hay)]
  exact hay
theorem conn_symm {l : List Int} (hg : isGrp l = true) {a y z : Nat} (ho : oppF l a = a) (hy : y < ord l) (hz : z < ord l) (h : (a ||| 1).testBit (addF l y (negF l z)) = true) : (a ||| 1).testBit (addF l z (negF l y)) = true := by
  have hO := isGrp_ords hg
  rw [Nat.testBit_or, one_bit] at h ⊢
  rw [Bool.or_eq_true] at h ⊢
  rcases h with h | h
  · left
    rw [← ho]
    exact testBit_oppF.2 ⟨_, addF_bd hg _ _, h, neg_sub hO hy hz⟩
  · right
    rw [decide_eq_true_iff] at h ⊢
    have h1 := add_sub hO (y := z) hy
    rw [h, addF_zero' hO hz] at h1
    rw [h1, addF_neg l hO]
/-- the candidates of the next step -/
theorem cli_next {l : List Int} (hg : isGrp l = true) {a b fr x : Nat} (ha : a < 2 ^ ord l) (ho : oppF l a = a) (hb : b < 2 ^ fr) (hx : (kidN (cliP l a) (ord l) b fr).testBit x = true) (i : Nat) :
    (kidN (cliP l a) (ord l) (b ||| 2 ^ x) (x + 1)).testBit i = (decide (x + 1 ≤ i) && ((kidN (cliP l a) (ord l) b fr).testBit i && (shiftF l a x).testBit i)) := by
  have hob := ord_bd hg
  rw [kidN_bit] at hx
  simp only [Bool.and_eq_true, decide_eq_true_eq] at hx
  obtain ⟨hx1, hx2, hx3⟩ := hx
  rw [kidN_bit, kidN_bit]
  by_cases hi : i < ord l
  rotate_left
  · simp [hi]
  by_cases hxi : x + 1 ≤ i
  rotate_left
  · simp [hxi]
  rw [← conn_iff hg ha hx1 hi (by omega)]
  simp only [hi, hxi, show fr ≤ i by omega, decide_true, Bool.true_and]
  rw [cliP_iff hg] at hx3
  refine bool_eq_of ⟨fun h => ?_, fun h => ?_⟩
  · rw [cliP_iff hg] at h
    rw [Bool.and_eq_true, cliP_iff hg]
    refine ⟨fun y z hy hz hby hbz => h y z hy hz ?_ ?_, h i x (by omega) (by omega) (by rw [Nat.testBit_or, bit_two]; simp) (by rw [Nat.testBit_or, Nat.testBit_or, bit_two]; simp)⟩
    · rw [Nat.testBit_or, Bool.or_eq_true] at hby; rw [Nat.testBit_or, Nat.testBit_or]; rcases hby with e | e <;> simp [e]
    · rw [Nat.testBit_or, Bool.or_eq_true] at hbz; rw [Nat.testBit_or, Nat.testBit_or]; rcases hbz with e | e <;> simp [e]
  · rw [Bool.and_eq_true, cliP_iff hg] at h
    obtain ⟨h1, h2⟩ := h
    rw [cliP_iff hg]
    have part : ∀ y, (b ||| 2 ^ x ||| 2 ^ i).testBit y = true → (b.testBit y = true ∨ y = x) ∨ y = i := by
      intro y hy
      rw [Nat.testBit_or, Nat.testBit_or, bit_two, bit_two] at hy
      simp only [Bool.or_eq_true, decide_eq_true_eq] at hy
      rcases hy with (e | e) | e
      · exact Or.inl (Or.inl e)
      · exact Or.inl (Or.inr e.symm)
      · exact Or.inr e.symm
    have inx : ∀ y, (b.testBit y = true ∨ y = x) → (b ||| 2 ^ x).testBit y = true := by
      rintro y (e | rfl)
      · rw [Nat.testBit_or, e]; rfl
      · rw [Nat.testBit_or, bit_two]; simp
    have ini : ∀ y, (b.testBit y = true ∨ y = i) → (b ||| 2 ^ i).testBit y = true := by
      rintro y (e | rfl)
      · rw [Nat.testBit_or, e]; rfl
      · rw [Nat.testBit_or, bit_two]; simp
    intro y z hy hz hby hbz
    rcases part y hby with hy1 | rfl
    · rcases part z hbz with hz1 | rfl
      · exact hx3 y z hy hz (inx y hy1) (inx z hz1)
      · rcases hy1 with hy1 | rfl
        · exact h1 y z hy hz (ini y (Or.inl hy1)) (ini z (Or.inr rfl))
        · exact conn_symm hg ho hi hx1 h2
    · rcases part z hbz with hz1 | rfl
      · rcases hz1 with hz1 | rfl
        · exact h1 y z hy hz (ini y (Or.inr rfl)) (ini z (Or.inl hz1))
        · exact h2
      · exact conn_self l (isGrp_ords hg) a _
theorem cli_start {l : List Int} (hg : isGrp l = true) (a : Nat) : kidN (cliP l a) (ord l) 0 0 = fullN l := by
  apply Nat.eq_of_testBit_eq
  intro i
  rw [kidN_bit, fullN_bit]
  by_cases hi : i < ord l
  · have : cliP l a (2 ^ i) = true := by
      rw [cliP_iff hg]
      intro y z _ _ hy hz
      rw [bit_two, decide_eq_true_iff] at hy hz
      subst hy; subst hz
      exact conn_self l (isGrp_ords hg) a i
    simp [hi, this]
  · simp [hi]
/-- left & s, shifted down and up again -/
theorem cut_bits (m s x i : Nat) : (shr (m &&& s) (x + 1) * 2 ^ (x + 1)).testBit i = (decide (x + 1 ≤ i) && (m.testBit i && s.testBit i)) := by
  unfold shr
  rw [← Nat.shiftLeft_eq, Nat.testBit_shiftLeft, Nat.testBit_shiftRight]
  by_cases h : x + 1 ≤ i
  · simp [h, Nat.testBit_and]
  · simp [h]
def lcF (l : List Int) (a : Int) : Bool := connB l a && decide (ord l ≤ 16)
def lcV (l : List Int) (a : Int) : Int := if lcF l a then (fsS (cliP l a.toNat) (ord l) (ord l + 1) 0 0 : Nat) else 0
end Go.Zz

/- The search for a first largest set: the program's closures. -/
namespace Go.Zz
open Go.RowKit Go.Proofs
set_option maxHeartbeats 2000000
set_option maxRecDepth 4000

/-- w' is w with new blocks, and writes to the blocks of S alone -/
structure Fw (S : Nat → Prop) (w w' : World) : Prop where
  os : w'.os = w.os
  tape : w'.tape = w.tape
  output : w'.output = w.output
  size : w.heap.size ≤ w'.heap.size
  block : ∀ k, k < w.heap.size → ¬ S k → w'.heap[k]? = w.heap[k]?
theorem Fw.refl (S : Nat → Prop) (w : World) : Fw S w w := ⟨rfl, rfl, rfl, Nat.le_refl _, fun _ _ _ => rfl⟩
theorem Fw.trans {S : Nat → Prop} {w w1 w2 : World} (h : Fw S w w1) (k : Fw S w1 w2) : Fw S w w2 :=
  ⟨k.os.trans h.os, k.tape.trans h.tape, k.output.trans h.output, Nat.le_trans h.size k.size, fun i hi hs => (k.block i (Nat.lt_of_lt_of_le hi h.size) hs).trans (h.block i hi hs)⟩
theorem Ext.fw {w w' : World} (h : Ext w w') (S : Nat → Prop) : Fw S w w' := ⟨h.os, h.tape, h.output, h.size, fun k hk _ => h.block k hk⟩
theorem fw_set {S : Nat → Prop} {b : Nat} (h : S b) (w : World) (i : Nat) (v : Value) : Fw S w (w.setCell ⟨b, i, none⟩ v) :=
  ⟨rfl, rfl, rfl, by simp, fun k _ hk => Below.heap_setCell _ _ _ _ (fun e => hk (by rw [e]; exact h))⟩
theorem Fw.ext {S : Nat → Prop} {w0 w w' : World} (h : Fw S w w') (hE : Ext w0 w) (hS : ∀ k, S k → w0.heap.size ≤ k) : Ext w0 w' := by
  have hs := hE.size
  refine ⟨h.os.trans hE.os, h.tape.trans hE.tape, h.output.trans hE.output, Nat.le_trans hs h.size, fun k hk => ?_⟩
  rw [h.block k (Nat.lt_of_lt_of_le hk hs) fun e => by have := hS k e; omega]
  exact hE.block k hk
theorem Fw.blk {S : Nat → Prop} {w w' : World} (h : Fw S w w') {c : Nat} {T : TypeId} {cs : Array Value} (hB : Blk w c T cs) (hc : ¬ S c) : Blk w' c T cs := by
  unfold Blk; rw [h.block c hB.lt hc]; exact hB
/-- three boxes of ints -/
def S3 (a b c : Nat) (k : Nat) : Prop := k = a ∨ k = b ∨ k = c

end Go.Zz

/- Slices of slices that a call makes: their length alone is told. -/
namespace Go.Zz
open Go.RowKit Go.Proofs
set_option maxHeartbeats 1000000

theorem infoV : (Try.prog.info? 24).map (fun i => (i.zero, i.size, i.bytes)) = some (some (.slice none 0 0), 1, 24) := by kernel_rfl
theorem undV : Try.prog.underlying 97 = some (.slice 24) := by kernel_rfl
theorem elV : Try.prog.underlying 97 = some (.slice (Try.prog.elem 97)) := by kernel_rfl
theorem szV : ∀ w, (Go.sizeOf (Try.prog.elem 97)).run Try.prog w = .ok 1 w := fun w => by kernel_rfl
/-- v is a slice of n slices of the call's own -/
def OwnV (w0 w : World) (v : Value) (n : Nat) : Prop :=
  ∃ L : List Value, L.length = n ∧ (∀ u ∈ L, u.oneCell' = true) ∧ w.ownsRow w0.heap.size 24 1 v n L ∧ n ≤ 1000000
theorem OwnV.blk {w0 w : World} {v : Value} {n : Nat} (h : OwnV w0 w v n) : ∀ k, v.ownBlock = some k → w0.heap.size ≤ k ∧ k < w.heap.size := by
  obtain ⟨L, -, -, h, -⟩ := h; exact h.lt
theorem OwnV.ext {w0 w w' : World} {v : Value} {n : Nat} (h : OwnV w0 w v n) (hE : Ext w w') : OwnV w0 w' v n := by
  obtain ⟨L, h1, h2, h3, h4⟩ := h
  refine ⟨L, h1, h2, h3.kept (row := none) ⟨hE.os, hE.tape, hE.output, hE.size, fun k hk _ => hE.block k hk⟩ ?_, h4⟩
  cases hv : v.ownBlock <;> simp
theorem OwnV.mono {w0 w1 w : World} {v : Value} {n : Nat} (h : OwnV w1 w v n) (hE : Ext w0 w1) : OwnV w0 w v n := by
  obtain ⟨L, h1, h2, h3, h4⟩ := h
  exact ⟨L, h1, h2, ownsRow_mono h3 hE.size, h4⟩
theorem OwnV.le {w0 w : World} {v : Value} {n : Nat} (h : OwnV w0 w v n) : n ≤ 1000000 := by obtain ⟨_, _, _, _, h⟩ := h; exact h
theorem ownV_made {w0 w : World} (hE : Ext w0 w) : OwnV w0 (w.alloc (.cells #[] 24)) (.slice (some ⟨w.heap.size, 0, none⟩) 0 0) 0 := by
  have := World.ownsRow_lit (base := w0.heap.size) (e := 24) (size := 1) w #[] 0 hE.size (by unfold maxLen; omega) (by simp)
  exact ⟨[], rfl, by simp, by simpa using this, by omega⟩
theorem ownV_one {w0 w : World} (hE : Ext w0 w) (ao : Option Addr) (n c : Nat) : OwnV w0 (w.alloc (.cells #[.slice ao n c] 24)) (.slice (some ⟨w.heap.size, 0, none⟩) 1 1) 1 := by
  have := World.ownsRow_lit (base := w0.heap.size) (e := 24) (size := 1) w #[.slice ao n c] 1 hE.size (by unfold maxLen; omega) (by simp)
  exact ⟨[.slice ao n c], rfl, by simp [Value.oneCell'], by simpa using this, by omega⟩
theorem OwnV.shape {w0 w : World} {v : Value} {n : Nat} (h : OwnV w0 w v n) :
    ∃ (ao : Option Addr) (c : Nat), v = .slice ao n c ∧ n ≤ c ∧ (∀ i, i < n → ∃ g u, ao = some ⟨g, 0, none⟩ ∧ w.cell? ⟨g, i, none⟩ = some u) := by
  obtain ⟨L, hL, -, h1, -⟩ := h
  have h2 := h1.2
  rcases h2 with ⟨rfl, hl⟩ | ⟨g, cap, cur, rfl, hg, hh, hc, r⟩
  · exact ⟨none, 0, by rw [hl], by omega, by omega⟩
  · refine ⟨some ⟨g, 0, none⟩, cap, rfl, hc, fun i hi => ⟨g, L[i]'(by omega), rfl, ?_⟩⟩
    rw [World.ownsRow.cellAt h1 i (by omega)]
    simp [show i < L.length by omega]
/-- append of m cells that are there -/
theorem run_appendA (ty : TypeId) (w0 w : World) (v : Value) (n m c : Nat) (ad : Addr) (M : List Value) (hO : OwnV w0 w v n) (hM : M.length = m) (hM1 : ∀ u ∈ M, u.oneCell' = true) (hnews : ∀ j x, M[j]? = some x → w.cell? (ad.add j) = some x) (hE : Ext w0 w) (hn : n + m ≤ 1000000) :
    ∃ v' w', (Builtin.append_ #[97, 97] ty #[v, .slice (some ad) m c]).run Try.prog w = .ok v' w' ∧ OwnV w0 w' v' (n + m) ∧ w.grownBy w' v.ownBlock ∧ Nw v.ownBlock w v'.ownBlock ∧ Ext w0 w' := by
  obtain ⟨i, hi, hz, hs1, hby⟩ := info_parts infoV
  obtain ⟨L, hL, hL1, hL2, -⟩ := hO
  have hblk := hL2.lt
  have hLM : ∀ u ∈ L ++ M, u.oneCell' = true := fun u hu => by
    rw [List.mem_append] at hu
    rcases hu with hu | hu
    · exact hL1 u hu
    · exact hM1 u hu
  have h2 := hL2.2
  rcases h2 with ⟨rfl, hl⟩ | ⟨g, cap, cur, rfl, hg, hh, hnc, hcm, hcs, htk⟩
  · subst hl
    have hL' : L = [] := List.eq_nil_of_length_eq_zero hL
    subst hL'
    obtain ⟨v', w', hrun, r1, r2, -⟩ := run_append_own (P := Try.prog) w w.heap.size 97 ty 24 i (.slice none 0 0) 1 24 undV hi hz hs1 hby rfl (by omega) (.slice none 0 0) 0 [] (World.ownsRow_nil _ _ _ _) ad m c M (by omega) hnews hM1 (by unfold maxLen; omega) (by omega) (Nat.le_refl _)
    have r1' := r1.lt
    exact ⟨v', w', hrun, ⟨M, by omega, hM1, ownsRow_mono (by simpa using r1) hE.size, by omega⟩, r2, Or.inr fun k hk => (r1' k hk).1, hE.grown r2 fun k hk => by simp [Value.ownBlock] at hk⟩
  · by_cases hroom : n + m ≤ cap
    · obtain ⟨w', hrun, r1, r2⟩ := run_append_fits (P := Try.prog) w w0.heap.size 97 ty 24 i 1 undV hi hs1 g n cap _ hL2 ad m c M (by omega) hnews hM1 hroom
      exact ⟨_, w', hrun, ⟨L ++ M, by rw [List.length_append]; omega, hLM, r1, by omega⟩, r2, Or.inl rfl, hE.grown r2 fun k hk => by cases hk; exact hg⟩
    · obtain ⟨v', w', hrun, r1, r2⟩ := run_append_arg_grows (P := Try.prog) (w := w) 97 ty 24 i (.slice none 0 0) 1 24 undV hi hz hs1 hby rfl (by omega) ⟨g, 0, none⟩ n cap L (by omega) (by
        intro j u hu
        have hj : j < L.length := (List.getElem?_eq_some_iff.1 hu).1
        rw [Addr.add_lit, Nat.zero_add, World.ownsRow.cellAt hL2 j (by omega)]
        exact hu) ad m c M (by omega) hnews (by omega) (by unfold maxLen; omega) (by omega)
      have r1' := r1.lt
      exact ⟨v', w', hrun, ⟨L ++ M, by rw [List.length_append]; omega, hLM, ownsRow_mono r1 hE.size, by omega⟩, ⟨r2.os, r2.tape, r2.output, r2.size, fun k hk _ => r2.block k hk (by simp)⟩, Or.inr fun k hk => (r1' k hk).1, hE.grown r2 (by simp)⟩
/-- append(s, t...) -/
theorem run_appendsV (ty : TypeId) (w0 w1 w : World) (v u : Value) (n m : Nat) (hO : OwnV w0 w v n) (hI : OwnV w1 w u m) (hE : Ext w0 w) (hn : n + m ≤ 1000000) :
    ∃ v' w', (Builtin.append_ #[97, 97] ty #[v, u]).run Try.prog w = .ok v' w' ∧ OwnV w0 w' v' (n + m) ∧ w.grownBy w' v.ownBlock ∧ Nw v.ownBlock w v'.ownBlock ∧ Ext w0 w' := by
  have hO' := hO
  obtain ⟨i, hi, hz, hs1, hby⟩ := info_parts infoV
  obtain ⟨L, hL, -, hL2, -⟩ := hO
  obtain ⟨M, hM, hM1, hM2, -⟩ := hI
  have hM3 := hM2.2
  rcases hM3 with ⟨rfl, hl⟩ | ⟨g, cap, cur, rfl, hg, hh, hc, r⟩
  · subst hl
    have hrun := run_append_owned_none (P := Try.prog) w w0.heap.size 97 ty 24 i 1 undV hi v n L hL2
    exact ⟨v, w, hrun, hO', ⟨rfl, rfl, rfl, Nat.le_refl _, fun _ _ _ => rfl⟩, Or.inl rfl, hE⟩
  · exact run_appendA ty w0 w v n m cap ⟨g, 0, none⟩ M hO' hM hM1 (fun j x hx => by
      have hj : j < M.length := (List.getElem?_eq_some_iff.1 hx).1
      rw [Addr.add_lit, Nat.zero_add, World.ownsRow.cellAt hM2 j (by omega)]; exact hx) hE hn
section
variable {ops : Array Oper} {rest : List Oper} {o : Oper} {a : Act} {Q : Exit → Act → World → Prop}
theorem step_appendsV {K : Act → World → Prop} {E : Prop} {w : World} (hg : o.guard = none) (s x : Operand) (hop : o.op = Op.call { callee := Callee.builtin Builtin.append, args := #[s, x], argTypes := #[97, 97] })
    (w0 w1 : World) (v u : Value) (n m : Nat) (hO : OwnV w0 w v n) (hI : OwnV w1 w u m) (hE : Ext w0 w) (hn : n + m ≤ 1000000) (hs : a.eval s = v) (hx : a.eval x = u)
    (hK : ∀ v' w', OwnV w0 w' v' (n + m) → Ext w0 w' → K (a.put o.dst v') w') :
    if Region.wanted o (yielded ops a.tmps) = true then Oper.wp Try.prog o a w K Q else E := by
  have hw : Region.wanted o (yielded ops a.tmps) = true := by simp [Region.wanted, hg]
  rw [if_pos hw]
  obtain ⟨v', w', hrun, h1, -, -, h2⟩ := run_appendsV o.type w0 w1 w v u n m hO hI hE hn
  unfold Oper.wp
  simp [execOp, hop, resolve, invoke, builtin, hs, hx, hrun, Result.andThen]
  exact hK v' w' h1 h2
theorem wp_appendsV (hg : o.guard = none) (s x : Operand) (hop : o.op = Op.call { callee := Callee.builtin Builtin.append, args := #[s, x], argTypes := #[97, 97] })
    (w0 w1 w : World) (v u : Value) (n m : Nat) (hO : OwnV w0 w v n) (hI : OwnV w1 w u m) (hE : Ext w0 w) (hn : n + m ≤ 1000000) (hs : a.eval s = v) (hx : a.eval x = u)
    (hK : ∀ v' w', OwnV w0 w' v' (n + m) → Ext w0 w' → wpList Try.prog ops Q rest (a.put o.dst v') w') :
    wpList Try.prog ops Q (o :: rest) a w := by
  obtain ⟨v', w', hrun, h1, -, -, h2⟩ := run_appendsV o.type w0 w1 w v u n m hO hI hE hn
  refine wpList_plain hg fun K hK' => ?_
  unfold Oper.wp
  simp [execOp, hop, resolve, invoke, builtin, hs, hx, hrun, Result.andThen]
  exact hK' _ _ (hK v' w' h1 h2)
/-- append(s, y) -/
theorem wp_append1V (hg : o.guard = none) (s x : Operand) (hop : o.op = Op.call { callee := Callee.builtin Builtin.append, args := #[s, x], argTypes := #[97, 97] })
    (w0 W : World) (v : Value) (n : Nat) (ao : Option Addr) (k c : Nat) (hO : OwnV w0 W v n) (hE : Ext w0 W) (hn : n < 1000000) (hs : a.eval s = v) (hx : a.eval x = .slice (some ⟨W.heap.size, 0, none⟩) 1 1)
    (hK : ∀ v' w', OwnV w0 w' v' (n + 1) → W.grownBy w' v.ownBlock → Nw v.ownBlock W v'.ownBlock → wpList Try.prog ops Q rest (a.put o.dst v') w') :
    wpList Try.prog ops Q (o :: rest) a (W.alloc (.cells #[.slice ao k c] 24)) := by
  have e : Ext W (W.alloc (.cells #[.slice ao k c] 24)) := (Ext.refl W).alloc _
  obtain ⟨v', w', hrun, h1, h2, h3, -⟩ := run_appendA o.type w0 (W.alloc (.cells #[.slice ao k c] 24)) v n 1 1 ⟨W.heap.size, 0, none⟩ [.slice ao k c] (hO.ext e) rfl (by simp [Value.oneCell']) (cell_one_new _ _ _) (hE.alloc _) (by omega)
  refine wpList_plain hg fun K hK' => ?_
  unfold Oper.wp
  simp [execOp, hop, resolve, invoke, builtin, hs, hx, hrun, Result.andThen]
  refine hK' _ _ (hK v' w' h1 ⟨h2.os.trans e.os, h2.tape.trans e.tape, h2.output.trans e.output, Nat.le_trans e.size h2.size, fun k hk hne => ?_⟩ ?_)
  · rw [h2.block k (Nat.lt_of_lt_of_le hk e.size) hne]; exact e.block k hk
  · rcases h3 with h3 | h3
    · exact Or.inl h3
    · exact Or.inr fun k hk => Nat.le_trans e.size (h3 k hk)
/-- append(s, y), as a step of a region that draws -/
theorem step_append1V {K : Act → World → Prop} {E : Prop} {w : World} (hg : o.guard = none) (s x : Operand) (hop : o.op = Op.call { callee := Callee.builtin Builtin.append, args := #[s, x], argTypes := #[97, 97] })
    (w0 : World) (v : Value) (n g : Nat) (ao : Option Addr) (k c : Nat) (hs : a.eval s = v) (hx : a.eval x = .slice (some ⟨g, 0, none⟩) 1 1) (hB : Blk w g 24 #[.slice ao k c]) (hO : OwnV w0 w v n) (hE : Ext w0 w) (hn : n < 1000000)
    (hK : ∀ v' w', OwnV w0 w' v' (n + 1) → w.grownBy w' v.ownBlock → Nw v.ownBlock w v'.ownBlock → K (a.put o.dst v') w') :
    if Region.wanted o (yielded ops a.tmps) = true then Oper.wp Try.prog o a w K Q else E := by
  have hw : Region.wanted o (yielded ops a.tmps) = true := by simp [Region.wanted, hg]
  rw [if_pos hw]
  obtain ⟨v', w', hrun, h1, h2, h3, -⟩ := run_appendA o.type w0 w v n 1 1 ⟨g, 0, none⟩ [.slice ao k c] hO rfl (by simp [Value.oneCell']) (fun j u hu => by
    have hj : j < 1 := by have := (List.getElem?_eq_some_iff.1 hu).1; simpa using this
    have e0 : j = 0 := by omega
    subst e0
    rw [Addr.add_lit, Nat.zero_add]
    exact hB.cell (i := 0) (by simpa using hu)) hE (by omega)
  unfold Oper.wp
  simp [execOp, hop, resolve, invoke, builtin, hs, hx, hrun, Result.andThen]
  exact hK v' w' h1 h2 h3
end
end Go.Zz
