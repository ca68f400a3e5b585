/- The drawing of arguments: a cursor on bytes, what it leaves, numbers below a bound. -/
import Derived.Test.YtgjomoedgmofbaaFr
import Derived.Test.YtgjomoedgmofbaaC29
import Derived.Deep.RegionHeld3
namespace Go.Zz
open Go.RowKit Go.Proofs
set_option maxHeartbeats 2000000
set_option maxRecDepth 8000

/-- v is a slice of bytes that reads as l in w -/
def Byts (w : World) (v : Value) (l : List Int) : Prop :=
  ∃ (ao : Option Addr) (c : Nat), v = .slice ao l.length c ∧ l.length ≤ 140737488355328 ∧ (∀ i, 0 ≤ nth l i ∧ nth l i ≤ 255) ∧
    ∀ i, i < l.length → ∃ a, ao = some a ∧ w.cell? (a.add i) = some (.int .u8 (nth l i))
theorem Byts.ext {w w' : World} {v : Value} {l : List Int} (h : Byts w v l) (hE : Ext w w') : Byts w' v l := by
  obtain ⟨ao, c, rfl, h1, h2, h3⟩ := h
  refine ⟨ao, c, rfl, h1, h2, fun i hi => ?_⟩
  obtain ⟨a, rfl, hc⟩ := h3 i hi
  exact ⟨a, rfl, hE.cell hc⟩
theorem Byts.op {w : World} {v : Value} {l : List Int} (h : Byts w v l) :
    ∃ (ao : Option Addr) (c : Nat) (adr : Nat → Addr), v = .slice ao l.length c ∧ l.length ≤ 140737488355328 ∧ (∀ i, 0 ≤ nth l i ∧ nth l i ≤ 255) ∧
      (∀ i, i < l.length → ao = some (adr 0) ∧ adr i = (adr 0).add i) ∧
      (∀ i W, i < l.length → Ext w W → W.cell? (adr i) = some (.int .u8 (nth l i))) := by
  obtain ⟨ao, c, rfl, h1, h2, h3⟩ := h
  refine ⟨ao, c, fun i => (ao.getD default).add i, rfl, by omega, h2, fun i hi => ?_, fun i W hi hW => ?_⟩
  · obtain ⟨a, rfl, hc⟩ := h3 i hi
    exact ⟨by simp [Addr.add], by simp [Addr.add]⟩
  · obtain ⟨a, rfl, hc⟩ := h3 i hi
    exact hW.cell (by simpa using hc)
theorem elY : Try.prog.underlying 22 = some (.slice (Try.prog.elem 22)) := by kernel_rfl
theorem szY : ∀ w, (Go.sizeOf (Try.prog.elem 22)).run Try.prog w = .ok 1 w := fun w => by kernel_rfl

/-- p is the block of a cursor on bytes that w0 holds -/
def Cur (w0 w : World) (p : Nat) : Prop :=
  ∃ (ao : Option Addr) (l : List Int) (c : Nat) (i : Nat) (h : Int), Blk w p 113 #[.slice ao l.length c, .int .i64 i, .int .i64 h] ∧ i ≤ l.length ∧ w0.heap.size ≤ p ∧ Byts w0 (.slice ao l.length c) l ∧ Ext w0 w
theorem Cur.lt {w0 w : World} {p : Nat} (h : Cur w0 w p) : w0.heap.size ≤ p ∧ p < w.heap.size := by
  obtain ⟨_, _, _, _, _, h1, _, h2, _⟩ := h; exact ⟨h2, h1.lt⟩
theorem Cur.ext {w0 w w' : World} {p : Nat} (h : Cur w0 w p) (hE : Ext w w') : Cur w0 w' p := by
  obtain ⟨ao, l, c, i, n, h1, h2, h3, h4, h5⟩ := h; exact ⟨ao, l, c, i, n, h1.ext hE, h2, h3, h4, h5.trans hE⟩
theorem Cur.base {w0 w : World} {p : Nat} (h : Cur w0 w p) : Ext w0 w := by obtain ⟨_, _, _, _, _, _, _, _, _, h⟩ := h; exact h
/-- a write to another new block leaves the cursor -/
theorem Cur.other {w0 w : World} {p : Nat} (h : Cur w0 w p) {b i : Nat} (h1 : p ≠ b) (h2 : w0.heap.size ≤ b) (v : Value) : Cur w0 (w.setCell ⟨b, i, none⟩ v) p := by
  obtain ⟨ao, l, c, k, n, g1, g2, g3, g4, g5⟩ := h; exact ⟨ao, l, c, k, n, g1.other h1 v, g2, g3, g4, g5.setCell h2 v⟩
/-- what a draw leaves: blocks but the cursor's -/
def Drw (p : Nat) (w w' : World) : Prop := Fr p none w w'
theorem Drw.blk {p : Nat} {w w' : World} (h : Drw p w w') {c : Nat} {T : TypeId} {cs : Array Value} (hB : Blk w c T cs) (hc : c ≠ p) : Blk w' c T cs := Fr.blk h hB hc (by simp)
theorem Drw.own {p : Nat} {w w' : World} (h : Drw p w w') {TI : TypeId} {w0 : World} {v : Value} {l : List Int} (hO : Own TI w0 w v l) (hp : p < w0.heap.size) : Own TI w0 w' v l := by
  refine Fr.own h hO (own_nb hO hp) ?_
  cases hv : v.ownBlock <;> simp
theorem Drw.trans {p : Nat} {w w1 w2 : World} (h : Drw p w w1) (k : Drw p w1 w2) : Drw p w w2 := Fr.trans h (Nw.refl _ _) k
theorem Drw.alloc {p : Nat} {w w' : World} (h : Drw p w w') (o : Obj) : Drw p w (w'.alloc o) := Fr.trans h (Nw.refl _ _) (((Ext.refl w').alloc o).fr p none)
theorem Cur.alloc {w0 w : World} {p : Nat} (h : Cur w0 w p) (o : Obj) : Cur w0 (w.alloc o) p := h.ext ((Ext.refl w).alloc o)
theorem Drw.set {p : Nat} {w w' : World} (h : Drw p w w') {b : Nat} (hb : w.heap.size ≤ b) (i : Nat) (v : Value) : Drw p w (w'.setCell ⟨b, i, none⟩ v) :=
  ⟨h.os, h.tape, h.output, by simpa using h.size, fun k hk h1 h2 => by rw [Below.heap_setCell _ _ _ _ (by show k ≠ b; omega)]; exact Fr.block h k hk h1 h2⟩
theorem Own.low {TI : TypeId} {w0 w1 w : World} {v : Value} {l : List Int} (h : Own TI w1 w v l) (hs : w0.heap.size ≤ w1.heap.size) : Own TI w0 w v l := ⟨ownsRow_mono h.1 hs, h.2⟩
theorem Drw.refl (p : Nat) (w : World) : Drw p w w := Fr.refl _ _ _
theorem Drw.size {p : Nat} {w w' : World} (h : Drw p w w') : w.heap.size ≤ w'.heap.size := Fr.size h
theorem Ext.drw {w w' : World} (h : Ext w w') (p : Nat) : Drw p w w' := h.fr p none

def ixor (x y : Int) : Int := bits .xor .i64 x y
@[go_sem high] theorem intBits_xor_i (x y : Int) : Op.intBits .xor .i64 x y = pure (.int .i64 (ixor x y)) := rfl
theorem iand_255 (x : Int) : 0 ≤ iand x 255 ∧ iand x 255 ≤ 255 := by
  have h : iand x 255 = ((((BitVec.ofInt IntKind.i64.bits x).toNat &&& 255 : Nat)) : Int) := by
    show IntKind.i64.wrap ((BitVec.ofInt IntKind.i64.bits x &&& BitVec.ofInt IntKind.i64.bits 255).toNat : Int) = _
    rw [BitVec.toNat_and]
    have e : (BitVec.ofInt IntKind.i64.bits (255 : Int)).toNat = 255 := by decide
    rw [e, wrap_nat]
    exact Nat.lt_of_le_of_lt Nat.and_le_right (by decide)
  have h2 : (BitVec.ofInt IntKind.i64.bits x).toNat &&& 255 ≤ 255 := Nat.and_le_right
  omega
theorem l1New_any (v : Value) (l : List Int) (w0 w : World) (h0 : Byts w0 v l) (hE0 : Ext w0 w) :
    Calls Try.prog 120 #[v] w fun e w' => ∃ p, e = .returned (.pointer (some ⟨p, 0, none⟩)) ∧ Cur w0 w' p ∧ Ext w w' ∧ w.heap.size ≤ p := by
  have h := h0.ext hE0
  have HB := Lib.hid h0
  have HE0 := Lib.hid hE0
  clear h0 hE0
  obtain ⟨ao, c, adr, rfl, hl, hb, hadr, hcell⟩ := h.op
  have hix := ints_index (c := c) elY szY hadr
  have Hcell := Lib.hid hcell
  clear hadr hcell h
  go_enter Try.func120, Try.ntmps120
  go_wp2_with fail
  go_loopw [3, 4] (fun sh si wr => ∃ (k : Nat) (h : Int), k ≤ l.length ∧ si = .int .i64 k ∧ sh = .int .i64 h ∧ Ext w wr) (fun _ si _ => l.length - (intOf si).toNat)
  case atStart => exact ⟨0, _, by omega, rfl, rfl, Ext.refl _⟩
  case round =>
    rename World => wr
    obtain ⟨k, h, hk, rfl, rfl, hE⟩ := hrel
    by_cases hlt : k < l.length
    · have hck := Hcell.out k wr hlt hE
      have hbk := hb k
      obtain ⟨x, hx⟩ : ∃ x, x = nth l k := ⟨_, rfl⟩
      rw [← hx] at hck hbk
      clear hx
      have hltI : (k : Int) < (l.length : Int) := by omega
      by_cases h4 : (k : Int) < 4000
      · go_wp2_with fail
        go_roundw
        case rel => exact ⟨k + 1, _, by omega, by go_num, rfl, hE⟩
        case measure => (simp [intOf]; omega)
      · go_wp2_with fail
        go_ret
        exact ⟨_, rfl, ⟨ao, l, c, 0, _, Blk.new _ _ _, Nat.zero_le _, Nat.le_trans HE0.out.size hE.size, HB.out, HE0.out.trans (hE.alloc _)⟩, hE.alloc _, hE.size⟩
    · have hltI : ¬ (k : Int) < (l.length : Int) := by omega
      go_wp2_with fail
      go_ret
      exact ⟨_, rfl, ⟨ao, l, c, 0, _, Blk.new _ _ _, Nat.zero_le _, Nat.le_trans HE0.out.size hE.size, HB.out, HE0.out.trans (hE.alloc _)⟩, hE.alloc _, hE.size⟩
theorem l1Byte_any (w0 w : World) (p : Nat) (h : Cur w0 w p) :
    Calls Try.prog 215 #[.pointer (some ⟨p, 0, none⟩)] w fun e w' => ∃ x, e = .returned (.int .i64 x) ∧ 0 ≤ x ∧ x ≤ 255 ∧ Cur w0 w' p ∧ Drw p w w' := by
  obtain ⟨ao, l, c, i, hv, hB, hi, hp, hY, hE0⟩ := h
  have HY := Lib.hid hY
  obtain ⟨ao', c', adr, hvY, hl, hb, hadr, hcell⟩ := hY.op
  simp only [Value.slice.injEq] at hvY
  obtain ⟨rfl, -, rfl⟩ := hvY
  have hix := ints_index (c := c) elY szY hadr
  have Hcell := Lib.hid hcell
  clear hadr hcell hY
  have k2 := hB.cell (i := 2) (v := .int .i64 hv) rfl
  have f2 := hB.free 2
  have HB := Lib.hid hB
  have HE0 := Lib.hid hE0
  clear hB hE0
  have hb2 : ∀ (W : World) (u : Value) (h' : Int), Blk W p 113 #[u, .int .i64 i, .int .i64 h'] → ∀ U, (Lat W U).cell? ⟨p, 0, none⟩ = some u ∧ (Lat W U).cell? ⟨p, 1, none⟩ = some (.int .i64 i) ∧ (Lat W U).cell? ⟨p, 2, none⟩ = some (.int .i64 h') := fun W u h' hB U =>
    ⟨(hB.ext (lat_ext W U)).cell rfl, (hB.ext (lat_ext W U)).cell rfl, (hB.ext (lat_ext W U)).cell rfl⟩
  have Hb2 := Lib.hid hb2
  clear hb2
  go_enter Try.func215, Try.ntmps215
  go_wp2_with fail
  generalize wrap64 (wrap64 (hv * 6364136223846793005) + 1442695040888963407) = h1
  have B1 : Blk (w.setCell ⟨p, 2, none⟩ (.int .i64 h1)) p 113 #[.slice ao l.length c, .int .i64 i, .int .i64 h1] := HB.out.set 2 _
  have E1 : Ext w0 (w.setCell ⟨p, 2, none⟩ (.int .i64 h1)) := HE0.out.setCell hp _
  have F1 : Drw p w (w.setCell ⟨p, 2, none⟩ (.int .i64 h1)) := fr_set _ _ _ _ _
  generalize w.setCell ⟨p, 2, none⟩ (.int .i64 h1) = w1 at B1 E1 F1 ⊢
  have HB1 := Lib.hid B1
  have HE1 := Lib.hid E1
  have HF1 := Lib.hid F1
  have hU := Hb2.out w1 _ _ B1
  have c0U := fun U => (hU U).1
  have c1U := fun U => (hU U).2.1
  have c2U := fun U => (hU U).2.2
  clear hU B1 E1 F1 k2 f2
  have hE := Ext.refl w1
  by_cases hil : i < l.length
  · have hilI : (i : Int) < (l.length : Int) := by omega
    have hbi := hb i
    have hciU := fun U => Hcell.out i (Lat w1 U) hil (HE1.out.trans (lat_ext w1 U))
    obtain ⟨y, hy⟩ : ∃ y, y = nth l i := ⟨_, rfl⟩
    rw [← hy] at hbi hciU
    clear hy
    have hixi := hix i
    (refine wp_region_lat (w1) (by kernel_rfl) (by kernel_rfl) hE ?_); (repeat (go_big_quiet_step (first | (fail "no call")))); (refine wpQuiet_nil ?_); (intro W hE'); (replace hE := lat_of hE'); (clear hE')
    go_wp2_with fail
    (refine wp_region_lat (w1) (by kernel_rfl) (by kernel_rfl) hE ?_); (repeat (go_big_quiet_step (first | (fail "no call")))); (refine wpQuiet_nil ?_); (intro W hE'); (replace hE := lat_of hE'); (clear hE')
    go_wp2_with fail
    (refine wp_region_lat (w1) (by kernel_rfl) (by kernel_rfl) hE ?_); (repeat (go_big_quiet_step (first | (fail "no call")))); (refine wpQuiet_nil ?_); (intro W hE'); (replace hE := lat_of hE'); (clear hE')
    rename World => w2
    have B2 := HB1.out.ext hE
    have k1 := B2.cell (i := 1) (v := .int .i64 i) rfl
    have f1 := B2.free 1
    have hwi : IntKind.i64.wrap ((i : Int) + 1) = ((i + 1 : Nat) : Int) := by rw [show (i : Int) + 1 = ((i + 1 : Nat) : Int) by omega]; exact wrap_nat (Nat.lt_of_le_of_lt (show i + 1 ≤ 140737488355329 by omega) (by decide))
    go_wp2_with fail
    go_ret
    have hx := iand_255 (wrap64 (iand (ixor (ishr h1 33) (ishr h1 45)) 255 + y))
    refine ⟨_, rfl, hx.1, hx.2, ⟨ao, l, c, i + 1, h1, ?_, by omega, hp, HY.out, (HE1.out.trans hE).setCell hp _⟩, HF1.out.trans ((hE.drw p).trans (fr_set _ _ _ _ _))⟩
    exact B2.set 1 _
  · have hilI : ¬ (i : Int) < (l.length : Int) := by omega
    (refine wp_region_lat (w1) (by kernel_rfl) (by kernel_rfl) hE ?_); (repeat (go_big_quiet_step (first | (fail "no call")))); (refine wpQuiet_nil ?_); (intro W hE'); (replace hE := lat_of hE'); (clear hE')
    go_wp2_with fail
    (refine wp_region_lat (w1) (by kernel_rfl) (by kernel_rfl) hE ?_); (repeat (go_big_quiet_step (first | (fail "no call")))); (refine wpQuiet_nil ?_); (intro W hE'); (replace hE := lat_of hE'); (clear hE')
    rename World => w2
    go_wp2_with fail
    go_ret
    have hx := iand_255 (ixor (ishr h1 33) (ishr h1 45))
    exact ⟨_, rfl, hx.1, hx.2, ⟨ao, l, c, i, h1, HB1.out.ext hE, hi, hp, HY.out, HE1.out.trans hE⟩, HF1.out.trans (hE.drw p)⟩
end Go.Zz
