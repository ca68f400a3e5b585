/- The drawing of arguments: a cursor on bytes, what it leaves, numbers below a bound. -/
import Derived.Test.YtgkojfjbfmpaaaaGreatGr7
import Derived.Deep.RegionHeld3
import Derived.Test.YtgkojfjbfmpaaaaGreatGr3
import Derived.Test.YtgkojfjbfmpaaaaGreatGr4
import Derived.Test.YtgkojfjbfmpaaaaGreatGr6
namespace Go.Zz
open Go.RowKit Go.Proofs
set_option maxHeartbeats 2000000
set_option maxRecDepth 8000

/-- v is a slice of bytes that reads as l in w -/
def Byts (w : World) (v : Value) (l : List Int) : Prop :=
  ∃ (ao : Option Addr) (c : Nat), v = .slice ao l.length c ∧ l.length ≤ 140737488355328 ∧ (∀ i, 0 ≤ nth l i ∧ nth l i ≤ 255) ∧
    ∀ i, i < l.length → ∃ a, ao = some a ∧ w.cell? (a.add i) = some (.int .u8 (nth l i))
theorem Byts.ext {w w' : World} {v : Value} {l : List Int} (h : Byts w v l) (hE : Ext w w') : Byts w' v l := by
  obtain ⟨ao, c, rfl, h1, h2, h3⟩ := h
  refine ⟨ao, c, rfl, h1, h2, fun i hi => ?_⟩
  obtain ⟨a, rfl, hc⟩ := h3 i hi
  exact ⟨a, rfl, hE.cell hc⟩
theorem Byts.op {w : World} {v : Value} {l : List Int} (h : Byts w v l) :
    ∃ (ao : Option Addr) (c : Nat) (adr : Nat → Addr), v = .slice ao l.length c ∧ l.length ≤ 140737488355328 ∧ (∀ i, 0 ≤ nth l i ∧ nth l i ≤ 255) ∧
      (∀ i, i < l.length → ao = some (adr 0) ∧ adr i = (adr 0).add i) ∧
      (∀ i W, i < l.length → Ext w W → W.cell? (adr i) = some (.int .u8 (nth l i))) := by
  obtain ⟨ao, c, rfl, h1, h2, h3⟩ := h
  refine ⟨ao, c, fun i => (ao.getD default).add i, rfl, by omega, h2, fun i hi => ?_, fun i W hi hW => ?_⟩
  · obtain ⟨a, rfl, hc⟩ := h3 i hi
    exact ⟨by simp [Addr.add], by simp [Addr.add]⟩
  · obtain ⟨a, rfl, hc⟩ := h3 i hi
    exact hW.cell (by simpa using hc)
theorem elY : Tryz.prog.underlying 22 = some (.slice (Tryz.prog.elem 22)) := by kernel_rfl
theorem szY : ∀ w, (Go.sizeOf (Tryz.prog.elem 22)).run Tryz.prog w = .ok 1 w := fun w => by kernel_rfl

/-- p is the block of a cursor on bytes that w0 holds -/
def Cur (w0 w : World) (p : Nat) : Prop :=
  ∃ (ao : Option Addr) (l : List Int) (c : Nat) (i : Nat) (h : Int), Blk w p 56 #[.slice ao l.length c, .int .i64 i, .int .i64 h] ∧ i ≤ l.length ∧ w0.heap.size ≤ p ∧ Byts w0 (.slice ao l.length c) l ∧ Ext w0 w
theorem Cur.lt {w0 w : World} {p : Nat} (h : Cur w0 w p) : w0.heap.size ≤ p ∧ p < w.heap.size := by
  obtain ⟨_, _, _, _, _, h1, _, h2, _⟩ := h; exact ⟨h2, h1.lt⟩
theorem Cur.ext {w0 w w' : World} {p : Nat} (h : Cur w0 w p) (hE : Ext w w') : Cur w0 w' p := by
  obtain ⟨ao, l, c, i, n, h1, h2, h3, h4, h5⟩ := h; exact ⟨ao, l, c, i, n, h1.ext hE, h2, h3, h4, h5.trans hE⟩
theorem Cur.base {w0 w : World} {p : Nat} (h : Cur w0 w p) : Ext w0 w := by obtain ⟨_, _, _, _, _, _, _, _, _, h⟩ := h; exact h
/-- a write to another new block leaves the cursor -/
theorem Cur.other {w0 w : World} {p : Nat} (h : Cur w0 w p) {b i : Nat} (h1 : p ≠ b) (h2 : w0.heap.size ≤ b) (v : Value) : Cur w0 (w.setCell ⟨b, i, none⟩ v) p := by
  obtain ⟨ao, l, c, k, n, g1, g2, g3, g4, g5⟩ := h; exact ⟨ao, l, c, k, n, g1.other h1 v, g2, g3, g4, g5.setCell h2 v⟩
/-- what a draw leaves: blocks but the cursor's -/
def Drw (p : Nat) (w w' : World) : Prop := Fr p none w w'
theorem Drw.blk {p : Nat} {w w' : World} (h : Drw p w w') {c : Nat} {T : TypeId} {cs : Array Value} (hB : Blk w c T cs) (hc : c ≠ p) : Blk w' c T cs := Fr.blk h hB hc (by simp)
theorem Drw.own {p : Nat} {w w' : World} (h : Drw p w w') {TI : TypeId} {w0 : World} {v : Value} {l : List Int} (hO : Own TI w0 w v l) (hp : p < w0.heap.size) : Own TI w0 w' v l := by
  refine Fr.own h hO (own_nb hO hp) ?_
  cases hv : v.ownBlock <;> simp
theorem Drw.trans {p : Nat} {w w1 w2 : World} (h : Drw p w w1) (k : Drw p w1 w2) : Drw p w w2 := Fr.trans h (Nw.refl _ _) k
theorem Drw.alloc {p : Nat} {w w' : World} (h : Drw p w w') (o : Obj) : Drw p w (w'.alloc o) := Fr.trans h (Nw.refl _ _) (((Ext.refl w').alloc o).fr p none)
theorem Cur.alloc {w0 w : World} {p : Nat} (h : Cur w0 w p) (o : Obj) : Cur w0 (w.alloc o) p := h.ext ((Ext.refl w).alloc o)
theorem Drw.set {p : Nat} {w w' : World} (h : Drw p w w') {b : Nat} (hb : w.heap.size ≤ b) (i : Nat) (v : Value) : Drw p w (w'.setCell ⟨b, i, none⟩ v) :=
  ⟨h.os, h.tape, h.output, by simpa using h.size, fun k hk h1 h2 => by rw [Below.heap_setCell _ _ _ _ (by show k ≠ b; omega)]; exact Fr.block h k hk h1 h2⟩
theorem Own.low {TI : TypeId} {w0 w1 w : World} {v : Value} {l : List Int} (h : Own TI w1 w v l) (hs : w0.heap.size ≤ w1.heap.size) : Own TI w0 w v l := ⟨ownsRow_mono h.1 hs, h.2⟩
theorem Drw.refl (p : Nat) (w : World) : Drw p w w := Fr.refl _ _ _
theorem Drw.size {p : Nat} {w w' : World} (h : Drw p w w') : w.heap.size ≤ w'.heap.size := Fr.size h
theorem Ext.drw {w w' : World} (h : Ext w w') (p : Nat) : Drw p w w' := h.fr p none

def ixor (x y : Int) : Int := bits .xor .i64 x y
@[go_sem high] theorem intBits_xor_i (x y : Int) : Op.intBits .xor .i64 x y = pure (.int .i64 (ixor x y)) := rfl
theorem iand_255 (x : Int) : 0 ≤ iand x 255 ∧ iand x 255 ≤ 255 := by
  have h : iand x 255 = ((((BitVec.ofInt IntKind.i64.bits x).toNat &&& 255 : Nat)) : Int) := by
    show IntKind.i64.wrap ((BitVec.ofInt IntKind.i64.bits x &&& BitVec.ofInt IntKind.i64.bits 255).toNat : Int) = _
    rw [BitVec.toNat_and]
    have e : (BitVec.ofInt IntKind.i64.bits (255 : Int)).toNat = 255 := by decide
    rw [e, wrap_nat]
    exact Nat.lt_of_le_of_lt Nat.and_le_right (by decide)
  have h2 : (BitVec.ofInt IntKind.i64.bits x).toNat &&& 255 ≤ 255 := Nat.and_le_right
  omega
theorem l1New_any (v : Value) (l : List Int) (w0 w : World) (h0 : Byts w0 v l) (hE0 : Ext w0 w) :
    Calls Tryz.prog 37 #[v] w fun e w' => ∃ p, e = .returned (.pointer (some ⟨p, 0, none⟩)) ∧ Cur w0 w' p ∧ Ext w w' ∧ w.heap.size ≤ p := by
  have h := h0.ext hE0
  have HB := Lib.hid h0
  have HE0 := Lib.hid hE0
  clear h0 hE0
  obtain ⟨ao, c, adr, rfl, hl, hb, hadr, hcell⟩ := h.op
  have hix := ints_index (c := c) elY szY hadr
  have Hcell := Lib.hid hcell
  clear hadr hcell h
  go_enter Tryz.func37, Tryz.ntmps37
  go_wp2_with fail
  go_loopw [3, 4] (fun sh si wr => ∃ (k : Nat) (h : Int), k ≤ l.length ∧ si = .int .i64 k ∧ sh = .int .i64 h ∧ Ext w wr) (fun _ si _ => l.length - (intOf si).toNat)
  case atStart => exact ⟨0, _, by omega, rfl, rfl, Ext.refl _⟩
  case round =>
    rename World => wr
    obtain ⟨k, h, hk, rfl, rfl, hE⟩ := hrel
    by_cases hlt : k < l.length
    · have hck := Hcell.out k wr hlt hE
      have hbk := hb k
      obtain ⟨x, hx⟩ : ∃ x, x = nth l k := ⟨_, rfl⟩
      rw [← hx] at hck hbk
      clear hx
      have hltI : (k : Int) < (l.length : Int) := by omega
      by_cases h4 : (k : Int) < 4000
      · go_wp2_with fail
        go_roundw
        case rel => exact ⟨k + 1, _, by omega, by go_num, rfl, hE⟩
        case measure => (simp [intOf]; omega)
      · go_wp2_with fail
        go_ret
        exact ⟨_, rfl, ⟨ao, l, c, 0, _, Blk.new _ _ _, Nat.zero_le _, Nat.le_trans HE0.out.size hE.size, HB.out, HE0.out.trans (hE.alloc _)⟩, hE.alloc _, hE.size⟩
    · have hltI : ¬ (k : Int) < (l.length : Int) := by omega
      go_wp2_with fail
      go_ret
      exact ⟨_, rfl, ⟨ao, l, c, 0, _, Blk.new _ _ _, Nat.zero_le _, Nat.le_trans HE0.out.size hE.size, HB.out, HE0.out.trans (hE.alloc _)⟩, hE.alloc _, hE.size⟩
theorem l1Byte_any (w0 w : World) (p : Nat) (h : Cur w0 w p) :
    Calls Tryz.prog 95 #[.pointer (some ⟨p, 0, none⟩)] w fun e w' => ∃ x, e = .returned (.int .i64 x) ∧ 0 ≤ x ∧ x ≤ 255 ∧ Cur w0 w' p ∧ Drw p w w' := by
  obtain ⟨ao, l, c, i, hv, hB, hi, hp, hY, hE0⟩ := h
  have HY := Lib.hid hY
  obtain ⟨ao', c', adr, hvY, hl, hb, hadr, hcell⟩ := hY.op
  simp only [Value.slice.injEq] at hvY
  obtain ⟨rfl, -, rfl⟩ := hvY
  have hix := ints_index (c := c) elY szY hadr
  have Hcell := Lib.hid hcell
  clear hadr hcell hY
  have k2 := hB.cell (i := 2) (v := .int .i64 hv) rfl
  have f2 := hB.free 2
  have HB := Lib.hid hB
  have HE0 := Lib.hid hE0
  clear hB hE0
  have hb2 : ∀ (W : World) (u : Value) (h' : Int), Blk W p 56 #[u, .int .i64 i, .int .i64 h'] → ∀ U, (Lat W U).cell? ⟨p, 0, none⟩ = some u ∧ (Lat W U).cell? ⟨p, 1, none⟩ = some (.int .i64 i) ∧ (Lat W U).cell? ⟨p, 2, none⟩ = some (.int .i64 h') := fun W u h' hB U =>
    ⟨(hB.ext (lat_ext W U)).cell rfl, (hB.ext (lat_ext W U)).cell rfl, (hB.ext (lat_ext W U)).cell rfl⟩
  have Hb2 := Lib.hid hb2
  clear hb2
  go_enter Tryz.func95, Tryz.ntmps95
  go_wp2_with fail
  generalize wrap64 (wrap64 (hv * 6364136223846793005) + 1442695040888963407) = h1
  have B1 : Blk (w.setCell ⟨p, 2, none⟩ (.int .i64 h1)) p 56 #[.slice ao l.length c, .int .i64 i, .int .i64 h1] := HB.out.set 2 _
  have E1 : Ext w0 (w.setCell ⟨p, 2, none⟩ (.int .i64 h1)) := HE0.out.setCell hp _
  have F1 : Drw p w (w.setCell ⟨p, 2, none⟩ (.int .i64 h1)) := fr_set _ _ _ _ _
  generalize w.setCell ⟨p, 2, none⟩ (.int .i64 h1) = w1 at B1 E1 F1 ⊢
  have HB1 := Lib.hid B1
  have HE1 := Lib.hid E1
  have HF1 := Lib.hid F1
  have hU := Hb2.out w1 _ _ B1
  have c0U := fun U => (hU U).1
  have c1U := fun U => (hU U).2.1
  have c2U := fun U => (hU U).2.2
  clear hU B1 E1 F1 k2 f2
  have hE := Ext.refl w1
  by_cases hil : i < l.length
  · have hilI : (i : Int) < (l.length : Int) := by omega
    have hbi := hb i
    have hciU := fun U => Hcell.out i (Lat w1 U) hil (HE1.out.trans (lat_ext w1 U))
    obtain ⟨y, hy⟩ : ∃ y, y = nth l i := ⟨_, rfl⟩
    rw [← hy] at hbi hciU
    clear hy
    have hixi := hix i
    (refine wp_region_lat (w1) (by kernel_rfl) (by kernel_rfl) hE ?_); (repeat (go_big_quiet_step (first | (fail "no call")))); (refine wpQuiet_nil ?_); (intro W hE'); (replace hE := lat_of hE'); (clear hE')
    go_wp2_with fail
    (refine wp_region_lat (w1) (by kernel_rfl) (by kernel_rfl) hE ?_); (repeat (go_big_quiet_step (first | (fail "no call")))); (refine wpQuiet_nil ?_); (intro W hE'); (replace hE := lat_of hE'); (clear hE')
    go_wp2_with fail
    (refine wp_region_lat (w1) (by kernel_rfl) (by kernel_rfl) hE ?_); (repeat (go_big_quiet_step (first | (fail "no call")))); (refine wpQuiet_nil ?_); (intro W hE'); (replace hE := lat_of hE'); (clear hE')
    rename World => w2
    have B2 := HB1.out.ext hE
    have k1 := B2.cell (i := 1) (v := .int .i64 i) rfl
    have f1 := B2.free 1
    have hwi : IntKind.i64.wrap ((i : Int) + 1) = ((i + 1 : Nat) : Int) := by rw [show (i : Int) + 1 = ((i + 1 : Nat) : Int) by omega]; exact wrap_nat (Nat.lt_of_le_of_lt (show i + 1 ≤ 140737488355329 by omega) (by decide))
    go_wp2_with fail
    go_ret
    have hx := iand_255 (wrap64 (iand (ixor (ishr h1 33) (ishr h1 45)) 255 + y))
    refine ⟨_, rfl, hx.1, hx.2, ⟨ao, l, c, i + 1, h1, ?_, by omega, hp, HY.out, (HE1.out.trans hE).setCell hp _⟩, HF1.out.trans ((hE.drw p).trans (fr_set _ _ _ _ _))⟩
    exact B2.set 1 _
  · have hilI : ¬ (i : Int) < (l.length : Int) := by omega
    (refine wp_region_lat (w1) (by kernel_rfl) (by kernel_rfl) hE ?_); (repeat (go_big_quiet_step (first | (fail "no call")))); (refine wpQuiet_nil ?_); (intro W hE'); (replace hE := lat_of hE'); (clear hE')
    go_wp2_with fail
    (refine wp_region_lat (w1) (by kernel_rfl) (by kernel_rfl) hE ?_); (repeat (go_big_quiet_step (first | (fail "no call")))); (refine wpQuiet_nil ?_); (intro W hE'); (replace hE := lat_of hE'); (clear hE')
    rename World => w2
    go_wp2_with fail
    go_ret
    have hx := iand_255 (ixor (ishr h1 33) (ishr h1 45))
    exact ⟨_, rfl, hx.1, hx.2, ⟨ao, l, c, i, h1, HB1.out.ext hE, hi, hp, HY.out, HE1.out.trans hE⟩, HF1.out.trans (hE.drw p)⟩
end Go.Zz

/- Small functions that the laws call: sizes of sets, sums; equal lists, sums of lists, bytes by index. -/
namespace Go.Zz
open Go.RowKit Go.Proofs
set_option maxHeartbeats 2000000
set_option maxRecDepth 8000

theorem big_any (v : Value) (l : List Int) (w : World) (h : Byts w v l) :
    Calls Tryz.prog 4 #[v] w fun e w' => ∃ b, e = .returned (.bool b) ∧ Ext w w' := by
  obtain ⟨ao, c, rfl, -⟩ := h
  go_enter Tryz.func4, Tryz.ntmps4
  go_wp2_with fail
  go_ret
  exact ⟨_, rfl, Ext.refl _⟩
def csF (l : List Int) (a : Int) : Int := if isSetB l a then (cnt a.toNat : Int) else -1
theorem csF_no {l : List Int} {a : Int} (h : isSetB l a = false) : csF l a = -1 := by unfold csF; rw [h]; rfl
theorem csF_yes {l : List Int} {n : Nat} (h : isSetB l n = true) : csF l n = cnt n := by unfold csF; rw [if_pos h]; rfl
theorem sCountSet_any (v : Value) (l : List Int) (a : Int) (w : World) (h : Ints w v l) :
    Calls Tryz.prog 11 #[.agg #[v], .int .i64 a] w fun e w' => e = .returned (.int .i64 (csF l a)) ∧ Ext w w' := by
  have hE0 := (Ext.refl w).alloc (.cells #[v] 26)
  have hE := Ext.refl (w.alloc (.cells #[v] 26))
  have hb := box_cell w v 26
  have hg : ∀ W, Ext (w.alloc (.cells #[v] 26)) W → Ints W v l := fun W hW => h.ext (hE0.trans hW)
  clear h
  cases hs : isSetB l a
  · have Hs := Lib.hid hs
    go_enter Tryz.func11, Tryz.ntmps11
    go_wp2_with (first | (go_at_call 16; refine (sIsSet_any _ _ _ _ (hg _ hE)).mono ?_; rintro e w' ⟨rfl, hE'⟩; replace hE := hE.trans hE'; clear hE'))
    go_ret
    exact ⟨ret_int (csF_no Hs.out).symm, hE0.trans hE⟩
  · obtain ⟨n, rfl, h1, h2, h3⟩ := isSetB_nat hs
    have Hc := Lib.hid (csF_yes hs)
    go_enter Tryz.func11, Tryz.ntmps11
    go_wp2_with (first | (go_at_call 16; refine (sIsSet_any _ _ _ _ (hg _ hE)).mono ?_; rintro e w' ⟨rfl, hE'⟩; replace hE := hE.trans hE'; clear hE') | (go_at_call 36; refine (l3Bits_any _ (h2) _).mono ?_; rintro e w' ⟨rfl, rfl⟩))
    go_ret
    exact ⟨ret_int Hc.out.symm, hE0.trans hE⟩
def ssF (l : List Int) (a b : Int) : Int := if isSetB l a && isSetB l b then (sumF l a.toNat b.toNat : Int) else -1
theorem ssF_no {l : List Int} {a b : Int} (h : (isSetB l a && isSetB l b) = false) : ssF l a b = -1 := by unfold ssF; rw [h]; rfl
theorem ssF_yes {l : List Int} {m n : Nat} (h : (isSetB l m && isSetB l n) = true) : ssF l m n = sumF l m n := by unfold ssF; rw [if_pos h]; rfl
theorem sSumOfSets_any (v : Value) (l : List Int) (a b : Int) (w : World) (h : Ints w v l) :
    Calls Tryz.prog 12 #[.agg #[v], .int .i64 a, .int .i64 b] w fun e w' => e = .returned (.int .i64 (ssF l a b)) ∧ Ext w w' := by
  have hE0 := (Ext.refl w).alloc (.cells #[v] 26)
  have hE := Ext.refl (w.alloc (.cells #[v] 26))
  have hb := box_cell w v 26
  have hg : ∀ W, Ext (w.alloc (.cells #[v] 26)) W → Ints W v l := fun W hW => h.ext (hE0.trans hW)
  clear h
  cases ha : isSetB l a
  · have Hs := Lib.hid (ssF_no (l := l) (a := a) (b := b) (by rw [ha]; rfl))
    go_enter Tryz.func12, Tryz.ntmps12
    go_wp2_with (first | (go_at_call 16; refine (sIsSet_any _ _ _ _ (hg _ hE)).mono ?_; rintro e w' ⟨rfl, hE'⟩; replace hE := hE.trans hE'; clear hE'))
    go_ret
    exact ⟨ret_int Hs.out.symm, hE0.trans hE⟩
  · cases hb2 : isSetB l b
    · have Hs := Lib.hid (ssF_no (l := l) (a := a) (b := b) (by rw [ha, hb2]; rfl))
      go_enter Tryz.func12, Tryz.ntmps12
      go_wp2_with (first | (go_at_call 16; refine (sIsSet_any _ _ _ _ (hg _ hE)).mono ?_; rintro e w' ⟨rfl, hE'⟩; replace hE := hE.trans hE'; clear hE'))
      go_ret
      exact ⟨ret_int Hs.out.symm, hE0.trans hE⟩
    · obtain ⟨m, rfl, a1, a2, hgr⟩ := isSetB_nat ha
      obtain ⟨n, rfl, b1, b2, -⟩ := isSetB_nat hb2
      have Hs := Lib.hid (ssF_yes (l := l) (m := m) (n := n) (by rw [ha, hb2]; rfl))
      have Hgr := Lib.hid hgr
      go_enter Tryz.func12, Tryz.ntmps12
      go_wp2_with (first | (go_at_call 16; refine (sIsSet_any _ _ _ _ (hg _ hE)).mono ?_; rintro e w' ⟨rfl, hE'⟩; replace hE := hE.trans hE'; clear hE') | (go_at_call 31; refine (l4Sum_any _ _ _ _ _ (hg _ hE) (Hgr) (a2) (b2)).mono ?_; rintro e w' ⟨rfl, hE'⟩; replace hE := hE.trans hE'; clear hE'))
      go_ret
      exact ⟨ret_int Hs.out.symm, hE0.trans hE⟩
end Go.Zz

/- Differences of progressions. -/
namespace Go.Zz
open Go.RowKit Go.Proofs
set_option maxHeartbeats 1000000
set_option maxRecDepth 20000

theorem DifferencesOf_any (v : Value) (l : List Int) (a : Int) (w : World) (h : Ints w v l) :
    Calls Tryz.prog 53 #[.agg #[v], .int .i64 a] w fun e w' => ∃ u, e = .returned u ∧ Own 3 w w' u (difF l a) ∧ Ext w w' := by
  obtain ⟨wb, hwb⟩ : ∃ wb, wb = w.alloc (.cells #[v] 26) := ⟨_, rfl⟩
  have hE0 := (Ext.refl w).alloc (.cells #[v] 26)
  have hb := box_cell w v 26
  rw [← hwb] at hE0 hb
  have hg : ∀ W, Ext wb W → Ints W v l := fun W hW => h.ext (hE0.trans hW)
  have hE := Ext.refl wb
  have Hsz : Hid (w.heap.size + 1 = wb.heap.size) := Lib.hid (by rw [hwb]; simp [go_sem])
  have Hwb := Lib.hid hwb
  clear hwb h
  obtain ⟨wc, hwc⟩ : ∃ wc, wc = wb.alloc (.cells #[] 3) := ⟨_, rfl⟩
  have hO : Own 3 wb wc (.slice (some ⟨wb.heap.size, 0, none⟩) 0 0) [] := by rw [hwc]; exact own_made (by omega) hE [] rfl
  replace hE : Ext wb wc := by rw [hwc]; exact hE.alloc _
  have Hsz2 : Hid (wb.heap.size + 1 = wc.heap.size) := Lib.hid (by rw [hwc]; simp [go_sem])
  have Hwc := Lib.hid hwc
  clear hwc
  cases hs : isSetB l a
  · have Hs := Lib.hid (difF_no (isOneB_no hs))
    go_enter Tryz.func53, Tryz.ntmps53
    go_wp2_with fail
    rw [← Hwb.out, ← Hwc.out]; rw [Hsz.out]; try rw [Hsz2.out]
    go_wp2_with (first | (go_at_call 32; refine Calls.mono (IsSet_val _ _ _ _ (hg _ (by repeat (first | assumption | exact Ext.refl _ | (apply And.left; assumption) | apply Ext.drew | apply Ext.alloc))) hs) ?_; rintro e w' ⟨rfl, hE'⟩; replace hO := hO.ext (Ext.trans (by repeat (first | assumption | exact Ext.refl _ | (apply And.left; assumption) | apply Ext.drew | apply Ext.alloc)) hE'); replace hE := hE.trans (Ext.trans (by repeat (first | assumption | exact Ext.refl _ | (apply And.left; assumption) | apply Ext.drew | apply Ext.alloc)) hE'); clear hE'))
    go_ret
    exact ⟨_, rfl, by rw [Hs.out]; exact hO.mono hE0, hE0.trans hE⟩
  · obtain ⟨n, rfl, h1, h2, hgr⟩ := isSetB_nat hs
    by_cases h0 : n = 0
    · subst h0
      have Hs := Lib.hid (difF_no (isOneB_zero l))
      go_enter Tryz.func53, Tryz.ntmps53
      go_wp2_with fail
      rw [← Hwb.out, ← Hwc.out]; rw [Hsz.out]; try rw [Hsz2.out]
      go_wp2_with (first | (go_at_call 32; refine Calls.mono (IsSet_val _ _ _ _ (hg _ (by repeat (first | assumption | exact Ext.refl _ | (apply And.left; assumption) | apply Ext.drew | apply Ext.alloc))) hs) ?_; rintro e w' ⟨rfl, hE'⟩; replace hO := hO.ext (Ext.trans (by repeat (first | assumption | exact Ext.refl _ | (apply And.left; assumption) | apply Ext.drew | apply Ext.alloc)) hE'); replace hE := hE.trans (Ext.trans (by repeat (first | assumption | exact Ext.refl _ | (apply And.left; assumption) | apply Ext.drew | apply Ext.alloc)) hE'); clear hE'))
      go_ret
      exact ⟨_, rfl, by have := Hs.out; rw [show ((0 : Nat) : Int) = 0 from rfl, this]; exact hO.mono hE0, hE0.trans hE⟩
    · have Hs := Lib.hid (difF_yes (isOneB_yes hs (by omega)))
      have h0' : ((n : Int) == 0) = false := by simp; omega
      have Hgr := Lib.hid hgr
      have hob := ord_bd hgr
      have hcn := cnt_le n
      clear hgr h0
      go_enter Tryz.func53, Tryz.ntmps53
      go_wp2_with fail
      rw [← Hwb.out, ← Hwc.out]; rw [Hsz.out]; try rw [Hsz2.out]
      go_wp2_with (first | (go_at_call 32; refine Calls.mono (IsSet_val _ _ _ _ (hg _ (by repeat (first | assumption | exact Ext.refl _ | (apply And.left; assumption) | apply Ext.drew | apply Ext.alloc))) hs) ?_; rintro e w' ⟨rfl, hE'⟩; replace hO := hO.ext (Ext.trans (by repeat (first | assumption | exact Ext.refl _ | (apply And.left; assumption) | apply Ext.drew | apply Ext.alloc)) hE'); replace hE := hE.trans (Ext.trans (by repeat (first | assumption | exact Ext.refl _ | (apply And.left; assumption) | apply Ext.drew | apply Ext.alloc)) hE'); clear hE') | (go_at_call 70; refine (OrderOf_grp _ _ _ (hg _ hE) Hgr).mono ?_; rintro e w' ⟨rfl, hE'⟩; replace hO := hO.ext hE'; replace hE := hE.trans hE'; clear hE'))
      clear hs h0'
      go_loopw [5, 21] (fun u x wr => ∃ k : Nat, k ≤ ord l ∧ x = .int .i64 k ∧ Own 3 wb wr u (castL (difTo l n k)) ∧ Ext wb wr) (fun _ x _ => ord l - (intOf x).toNat)
      case atStart => exact ⟨0, by omega, rfl, hO, hE⟩
      case round =>
        clear hE hO
        obtain ⟨k, hk, rfl, hO, hE⟩ := hrel
        by_cases hlt : k < ord l
        · have hln : (castL (difTo l n k)).length ≤ 24 := by rw [castL_len]; have := difTo_len l n k; omega
          go_wp2_with (first | (go_at_call 65; refine (members_any n h2 _).mono ?_; rintro e w1 ⟨v1, rfl, hL, hE1⟩; obtain ⟨aoL, cL, adrL, rfl, hadrL, hcellL⟩ := hL.ints.nats; have hixL := ints_index (c := cL) elI szI hadrL; clear hadrL))
          replace hO := hO.ext hE1
          replace hE := hE.trans hE1
          have hall : ∀ y ∈ elems n, y < 24 := fun y hy => elems_lt hy
          have hlen := elems_len n
          have Hdb : Hid (diffB l n k = diffL l n k (elems n)) := Lib.hid rfl
          clear hL hE1
          generalize elems n = L at hcellL hixL hall hlen Hdb ⊢
          have hEw := Ext.refl w1
          go_loopw [5, 27] (fun u i wq => ∃ j : Nat, j ≤ L.length ∧ i = .int .i64 j ∧ (∀ q, q < j → prSet l (nthN L q) k (cnt n) ≠ n) ∧ Own 3 wb wq u (castL (difTo l n k)) ∧ Ext w1 wq) (fun _ i _ => L.length - (intOf i).toNat)
          case atStart => exact ⟨0, by omega, rfl, by omega, hO, hEw⟩
          case round =>
            clear hO hEw
            obtain ⟨j, hj, rfl, hno, hO, hEw⟩ := hrel
            have Hno := Lib.hid hno
            clear hno
            have hEb := hE.trans hEw
            have hbx := lat_cell (hb _ hEb)
            by_cases hlt2 : j < L.length
            · have hck := hcellL j _ hlt2 hEw
              have hx24 := hall _ (nthN_mem hlt2)
              have hpb := prSet_bd Hgr.out hx24 k (cnt n)
              by_cases hq : prSet l (nthN L j) k (cnt n) = n
              · have Hn := Lib.hid (difTo_yes (by rw [Hdb.out]; exact diffL_at hlt2 hq))
                have hqi : ((prSet l (nthN L j) k (cnt n) : Int) == (n : Int)) = true := by rw [hq]; simp
                clear hq
                clear hE
                have hE := Ext.refl wr
                go_wp2_with fail
                (refine wp_region_lat (wr) (by kernel_rfl) (by kernel_rfl) hE ?_); (repeat (go_big_quiet_step (first | (go_at_call 33; exact Calls.lat_same (bits_any _ h2 _)) | (go_at_call 88; exact Calls.lat (progression_any _ _ _ _ _ _ (hg _ (hEb.trans (lat_ext wr _))) Hgr hx24 (by omega) hcn))))); (refine wpQuiet_nil ?_); (intro W hE'); (replace hE := lat_of hE'); (clear hE')
                replace hO := hO.ext hE
                replace hEb := hEb.trans hE
                replace hEw := hEw.trans hE
                go_wp2_with (at_builtin; refine wp_append1 slI rfl _ _ rfl wb _ _ _ _ hO hEb (by omega) rfl rfl ?_; intro v1 w1 hO1 hE1)
                go_roundw
                case rel => exact ⟨k + 1, by omega, by go_num, by rw [Hn.out]; simpa [castL_snoc] using hO1, hE1⟩
                case measure => (simp [intOf]; omega)
              · have hqi : ((prSet l (nthN L j) k (cnt n) : Int) == (n : Int)) = false := by simp; omega
                have Hq := Lib.hid hq
                clear hq
                clear hE
                have hE := Ext.refl wr
                go_wp2_with fail
                (refine wp_region_lat (wr) (by kernel_rfl) (by kernel_rfl) hE ?_); (repeat (go_big_quiet_step (first | (go_at_call 33; exact Calls.lat_same (bits_any _ h2 _)) | (go_at_call 88; exact Calls.lat (progression_any _ _ _ _ _ _ (hg _ (hEb.trans (lat_ext wr _))) Hgr hx24 (by omega) hcn))))); (refine wpQuiet_nil ?_); (intro W hE'); (replace hE := lat_of hE'); (clear hE')
                replace hO := hO.ext hE
                replace hEb := hEb.trans hE
                replace hEw := hEw.trans hE
                go_wp2_with fail
                go_roundw
                case rel => exact ⟨j + 1, by omega, by go_num, fun q hq => by by_cases e : q = j; (subst e; exact Hq.out); exact Hno.out q (by omega), hO, hEw⟩
                case measure => (simp [intOf]; omega)
            · have hjl : j = L.length := by omega
              subst hjl
              have Hn := Lib.hid (difTo_no (by rw [Hdb.out]; exact diffL_take Hno.out))
              go_wp2_with fail
              go_roundw
              case rel => exact ⟨k + 1, by omega, by go_num, by rw [Hn.out]; exact hO, hEb⟩
              case measure => (simp [intOf]; omega)
        · have hkl : k = ord l := by omega
          subst hkl
          go_wp2_with fail
          go_ret
          exact ⟨_, rfl, by rw [Hs.out]; exact hO.mono hE0, hE0.trans hE⟩
end Go.Zz

/- Differences of progressions: the reference. -/
namespace Go.Zz
open Go.RowKit Go.Proofs
set_option maxHeartbeats 1000000
set_option maxRecDepth 20000

theorem sDifferencesOf_any (v : Value) (l : List Int) (a : Int) (w : World) (h : Ints w v l) :
    Calls Tryz.prog 85 #[.agg #[v], .int .i64 a] w fun e w' => ∃ u, e = .returned u ∧ Own 3 w w' u (difF l a) ∧ Ext w w' := by
  obtain ⟨wb, hwb⟩ : ∃ wb, wb = w.alloc (.cells #[v] 26) := ⟨_, rfl⟩
  have hE0 := (Ext.refl w).alloc (.cells #[v] 26)
  have hb := box_cell w v 26
  rw [← hwb] at hE0 hb
  have hg : ∀ W, Ext wb W → Ints W v l := fun W hW => h.ext (hE0.trans hW)
  have hE := Ext.refl wb
  have Hsz : Hid (w.heap.size + 1 = wb.heap.size) := Lib.hid (by rw [hwb]; simp [go_sem])
  have Hwb := Lib.hid hwb
  clear hwb h
  obtain ⟨wc, hwc⟩ : ∃ wc, wc = wb.alloc (.cells #[] 3) := ⟨_, rfl⟩
  have hO : Own 3 wb wc (.slice (some ⟨wb.heap.size, 0, none⟩) 0 0) [] := by rw [hwc]; exact own_made (by omega) hE [] rfl
  have hBk : Blk wc wb.heap.size 3 #[] := by rw [hwc]; exact Blk.new _ _ _
  replace hE : Ext wb wc := by rw [hwc]; exact hE.alloc _
  have hEc := Ext.refl wc
  have Hsz2 : Hid (wb.heap.size + 1 = wc.heap.size) := Lib.hid (by rw [hwc]; simp [go_sem])
  have Hwc := Lib.hid hwc
  clear hwc
  cases hs : isSetB l a
  · have Hs := Lib.hid (difF_no (isOneB_no hs))
    go_enter Tryz.func85, Tryz.ntmps85
    go_wp2_with fail
    rw [← Hwb.out, ← Hwc.out]; rw [Hsz.out]; try rw [Hsz2.out]
    go_wp2_with (first | (go_at_call 16; refine Calls.mono (sIsSet_val _ _ _ _ (hg _ (by repeat (first | assumption | exact Ext.refl _ | (apply And.left; assumption) | apply Ext.drew | apply Ext.alloc))) hs) ?_; rintro e w' ⟨rfl, hE'⟩; replace hO := hO.ext (Ext.trans (by repeat (first | assumption | exact Ext.refl _ | (apply And.left; assumption) | apply Ext.drew | apply Ext.alloc)) hE'); replace hE := hE.trans (Ext.trans (by repeat (first | assumption | exact Ext.refl _ | (apply And.left; assumption) | apply Ext.drew | apply Ext.alloc)) hE'); clear hE'))
    go_ret
    exact ⟨_, rfl, by rw [Hs.out]; exact hO.mono hE0, hE0.trans hE⟩
  · obtain ⟨n, rfl, h1, h2, hgr⟩ := isSetB_nat hs
    by_cases h0 : n = 0
    · subst h0
      have Hs := Lib.hid (difF_no (isOneB_zero l))
      go_enter Tryz.func85, Tryz.ntmps85
      go_wp2_with fail
      rw [← Hwb.out, ← Hwc.out]; rw [Hsz.out]; try rw [Hsz2.out]
      go_wp2_with (first | (go_at_call 16; refine Calls.mono (sIsSet_val _ _ _ _ (hg _ (by repeat (first | assumption | exact Ext.refl _ | (apply And.left; assumption) | apply Ext.drew | apply Ext.alloc))) hs) ?_; rintro e w' ⟨rfl, hE'⟩; replace hO := hO.ext (Ext.trans (by repeat (first | assumption | exact Ext.refl _ | (apply And.left; assumption) | apply Ext.drew | apply Ext.alloc)) hE'); replace hE := hE.trans (Ext.trans (by repeat (first | assumption | exact Ext.refl _ | (apply And.left; assumption) | apply Ext.drew | apply Ext.alloc)) hE'); clear hE'))
      go_ret
      exact ⟨_, rfl, by have := Hs.out; rw [show ((0 : Nat) : Int) = 0 from rfl, this]; exact hO.mono hE0, hE0.trans hE⟩
    · have Hs := Lib.hid (difF_yes (isOneB_yes hs (by omega)))
      have h0' : ((n : Int) == 0) = false := by simp; omega
      have Hgr := Lib.hid hgr
      have hob := ord_bd hgr
      have hcn := cnt_le n
      clear hgr h0
      go_enter Tryz.func85, Tryz.ntmps85
      go_wp2_with fail
      rw [← Hwb.out, ← Hwc.out]; rw [Hsz.out]; try rw [Hsz2.out]
      go_wp2_with (first | (go_at_call 16; refine Calls.mono (sIsSet_val _ _ _ _ (hg _ (by repeat (first | assumption | exact Ext.refl _ | (apply And.left; assumption) | apply Ext.drew | apply Ext.alloc))) hs) ?_; rintro e w' ⟨rfl, hE'⟩; replace hEc := hEc.trans (Ext.trans (by repeat (first | assumption | exact Ext.refl _ | (apply And.left; assumption) | apply Ext.drew | apply Ext.alloc)) hE'); replace hE := hE.trans (Ext.trans (by repeat (first | assumption | exact Ext.refl _ | (apply And.left; assumption) | apply Ext.drew | apply Ext.alloc)) hE'); clear hE') | (go_at_call 36; refine (l3Bits_any _ h2 _).mono ?_; rintro e w' ⟨rfl, rfl⟩) | (go_at_call 68; refine (l3List_any n h2 _).mono ?_; rintro e w1 ⟨v1, rfl, hL, hE1⟩; obtain ⟨aoL, cL, adrL, rfl, hadrL, hcellL⟩ := hL.ints.nats; have hixL := ints_index (c := cL) elI szI hadrL; clear hadrL))
      replace hO := OwnE.start w1 hBk (hEc.trans hE1)
      replace hE := hE.trans hE1
      have hb1 : ∀ W, Ext w1 W → W.cell? ⟨w.heap.size, 0, none⟩ = some v := fun W hW => hb W (hE.trans hW)
      have hg1 : ∀ W, Ext w1 W → Ints W v l := fun W hW => hg W (hE.trans hW)
      have hEb1 := hE
      clear hs h0' hL hE1 hE hBk hEc
      have hall : ∀ y ∈ elems n, y < 24 := fun y hy => elems_lt hy
      have hlen := elems_len n
      have Hdb : Hid (∀ k, diffB l n k = diffL l n k (elems n)) := Lib.hid (fun _ => rfl)
      generalize elems n = L at hcellL hixL hall hlen Hdb ⊢
      have hE := Ext.refl w1
      go_loopw [5, 8] (fun u x wr => ∃ k : Nat, k ≤ ord l ∧ x = .int .i64 k ∧ OwnE 3 wb w1 wr u (castL (difTo l n k)) ∧ Ext w1 wr) (fun _ x _ => ord l - (intOf x).toNat)
      case atStart => exact ⟨0, by omega, rfl, hO, hE⟩
      case round =>
        clear hE hO
        obtain ⟨k, hk, rfl, hO, hE⟩ := hrel
        by_cases hlt : k < ord l
        · have hln : (castL (difTo l n k)).length ≤ 24 := by rw [castL_len]; have := difTo_len l n k; omega
          have hbx := hb1 _ hE
          go_wp2_with (first | (go_at_call 45; refine (l2Order_any _ _ _ (hg1 _ hE) Hgr).mono ?_; rintro e w' ⟨rfl, hE'⟩; replace hO := hO.ext hE'; replace hE := hE.trans hE'; clear hE'))
          clear hbx
          go_loopw [9, 10] (fun fv i wq => ∃ (j : Nat) (f : Bool), j ≤ L.length ∧ i = .int .i64 j ∧ fv = .bool f ∧ (f = true → diffL l n k L = true) ∧ (f = false → ∀ q, q < j → prSet l (nthN L q) k (cnt n) ≠ n) ∧ OwnE 3 wb w1 wq u5 (castL (difTo l n k)) ∧ Ext w1 wq) (fun fv i _ => L.length - (intOf i).toNat)
          case atStart => exact ⟨0, false, by omega, rfl, rfl, by simp, by omega, hO, hE⟩
          case round =>
            clear hO hE
            obtain ⟨j, f, hj, rfl, rfl, hyes, hno, hO, hE⟩ := hrel
            have Hyes := Lib.hid hyes
            have Hno := Lib.hid hno
            clear hyes hno
            cases f
            · by_cases hlt2 : j < L.length
              · have hx24 := hall _ (nthN_mem hlt2)
                have hpb := prSet_bd Hgr.out hx24 k (cnt n)
                by_cases hq : prSet l (nthN L j) k (cnt n) = n
                · have Hat := Lib.hid (diffL_at hlt2 hq)
                  have hqi : ((prSet l (nthN L j) k (cnt n) : Int) == (n : Int)) = true := by rw [hq]; simp
                  clear hq
                  have hck := fun U => hcellL j _ hlt2 (hE.trans (lat_ext wr U))
                  have hbx := lat_cell (hb1 _ hE)
                  have hgW : ∀ W, Ext wr W → Ints W v l := fun W hW => hg1 W (hE.trans hW)
                  have hE1 := hE
                  clear hE
                  have hE := Ext.refl wr
                  go_wp2_with fail
                  (refine wp_region_lat (wr) (by kernel_rfl) (by kernel_rfl) hE ?_); (repeat (go_big_quiet_step (first | (go_at_call 103; exact Calls.lat (l10Progression_any _ _ _ _ _ _ (hgW _ (lat_ext wr _)) Hgr hx24 (by omega) hcn))))); (refine wpQuiet_nil ?_); (intro W hE'); (replace hE := lat_of hE'); (clear hE')
                  replace hO := hO.ext hE
                  replace hE := hE1.trans hE
                  go_wp2_with fail
                  go_roundw
                  case rel => exact ⟨j + 1, true, by omega, by go_num, rfl, fun _ => Hat.out, by simp, hO, hE⟩
                  case measure => (simp [intOf]; omega)
                · have hqi : ((prSet l (nthN L j) k (cnt n) : Int) == (n : Int)) = false := by simp; omega
                  have Hq := Lib.hid hq
                  clear hq
                  have hck := fun U => hcellL j _ hlt2 (hE.trans (lat_ext wr U))
                  have hbx := lat_cell (hb1 _ hE)
                  have hgW : ∀ W, Ext wr W → Ints W v l := fun W hW => hg1 W (hE.trans hW)
                  have hE1 := hE
                  clear hE
                  have hE := Ext.refl wr
                  go_wp2_with fail
                  (refine wp_region_lat (wr) (by kernel_rfl) (by kernel_rfl) hE ?_); (repeat (go_big_quiet_step (first | (go_at_call 103; exact Calls.lat (l10Progression_any _ _ _ _ _ _ (hgW _ (lat_ext wr _)) Hgr hx24 (by omega) hcn))))); (refine wpQuiet_nil ?_); (intro W hE'); (replace hE := lat_of hE'); (clear hE')
                  replace hO := hO.ext hE
                  replace hE := hE1.trans hE
                  go_wp2_with fail
                  go_roundw
                  case rel => exact ⟨j + 1, false, by omega, by go_num, rfl, by simp, fun _ q hq => by by_cases e : q = j; (subst e; exact Hq.out); exact Hno.out (by simp) q (by omega), hO, hE⟩
                  case measure => (simp [intOf]; omega)
              · have hjl : j = L.length := by omega
                subst hjl
                have Hn := Lib.hid (difTo_no (by rw [Hdb.out]; exact diffL_take (Hno.out rfl)))
                go_wp2_with fail
                go_roundw
                case rel => exact ⟨k + 1, by omega, by go_num, by rw [Hn.out]; exact hO, hE⟩
                case measure => (simp [intOf]; omega)
            · have Hn := Lib.hid (difTo_yes (by rw [Hdb.out]; exact Hyes.out rfl))
              by_cases hlt2 : j < L.length
              all_goals
                go_wp2_with (at_builtin; refine wp_append1e slI rfl _ _ rfl wb w1 _ _ _ _ hO hE (by omega) rfl rfl ?_; intro v1 w1' hO1 hE1)
                go_roundw
                case rel => exact ⟨k + 1, by omega, by go_num, by rw [Hn.out, castL_snoc]; exact Or.inr hO1, hE1⟩
                case measure => (simp [intOf]; omega)
        · have hkl : k = ord l := by omega
          subst hkl
          have hbx := hb1 _ hE
          go_wp2_with (first | (go_at_call 45; refine (l2Order_any _ _ _ (hg1 _ hE) Hgr).mono ?_; rintro e w' ⟨rfl, hE'⟩; replace hO := hO.ext hE'; replace hE := hE.trans hE'; clear hE'))
          go_ret
          exact ⟨_, rfl, by rw [Hs.out]; exact (hO.own hEb1).mono hE0, hE0.trans (hEb1.trans hE)⟩
end Go.Zz
