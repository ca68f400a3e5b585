/- Claims: equal ones, marks in what they hold. -/
import Derived.Test.YtopokpamhojooaaGr4
import Derived.Test.YtopokpamhojooaaGr3
namespace Go.Zz
open Go.RowKit Go.Proofs
set_option maxHeartbeats 2000000

/-- two values own no block together -/
def Apart (x y : Value) : Prop := ∀ k, x.ownBlock = some k → y.ownBlock ≠ some k
theorem Apart.symm {x y : Value} (h : Apart x y) : Apart y x := fun k hk e => h k e hk
theorem Apart.or {x y : Value} (h : Apart x y) : x.ownBlock = none ∨ x.ownBlock ≠ y.ownBlock := by
  cases hx : x.ownBlock with
  | none => exact Or.inl rfl
  | some k => exact Or.inr fun e => h k hx e.symm
theorem Apart.nil_left (y : Value) : Apart (.slice none 0 0) y := fun k hk => by cases hk
theorem Apart.nil_right (x : Value) : Apart x (.slice none 0 0) := fun k _ h => by cases h
theorem apart_of {TI : TypeId} {a b c d : World} {u v : Value} {l m : List Int} (h : Own TI a b u l) (k : Own TI c d v m) (hs : b.heap.size ≤ c.heap.size) : Apart u v := fun i hi e => by
  have h1 := (h.blk i hi).2
  have h2 := (k.blk i e).1
  omega
/-- four slices that are owned, apart from each other -/
structure Own4 (w0 w : World) (v1 v2 v3 v4 : Value) (g o t q : List Int) : Prop where
  h1 : Own 3 w0 w v1 g
  h2 : Own 3 w0 w v2 o
  h3 : Own 3 w0 w v3 t
  h4 : Own 3 w0 w v4 q
  d12 : Apart v1 v2
  d13 : Apart v1 v3
  d14 : Apart v1 v4
  d23 : Apart v2 v3
  d24 : Apart v2 v4
  d34 : Apart v3 v4
theorem Own4.ext {w0 w w' : World} {v1 v2 v3 v4 : Value} {g o t q : List Int} (h : Own4 w0 w v1 v2 v3 v4 g o t q) (hE : Ext w w') : Own4 w0 w' v1 v2 v3 v4 g o t q :=
  ⟨h.h1.ext hE, h.h2.ext hE, h.h3.ext hE, h.h4.ext hE, h.d12, h.d13, h.d14, h.d23, h.d24, h.d34⟩
theorem Own4.mono {w0 w1 w : World} {v1 v2 v3 v4 : Value} {g o t q : List Int} (h : Own4 w1 w v1 v2 v3 v4 g o t q) (hE : Ext w0 w1) : Own4 w0 w v1 v2 v3 v4 g o t q :=
  ⟨h.h1.mono hE, h.h2.mono hE, h.h3.mono hE, h.h4.mono hE, h.d12, h.d13, h.d14, h.d23, h.d24, h.d34⟩
/-- the slices of a claim read as lists -/
structure Ints4 (w : World) (v1 v2 v3 v4 : Value) (g o t q : List Int) : Prop where
  g : Ints w v1 g
  o : Ints w v2 o
  t : Ints w v3 t
  q : Ints w v4 q
theorem Ints4.ext {w w' : World} {v1 v2 v3 v4 : Value} {g o t q : List Int} (h : Ints4 w v1 v2 v3 v4 g o t q) (hE : Ext w w') : Ints4 w' v1 v2 v3 v4 g o t q :=
  ⟨h.g.ext hE, h.o.ext hE, h.t.ext hE, h.q.ext hE⟩
theorem Own4.ints {w0 w : World} {v1 v2 v3 v4 : Value} {g o t q : List Int} (h : Own4 w0 w v1 v2 v3 v4 g o t q) : Ints4 w v1 v2 v3 v4 g o t q := ⟨h.h1.ints, h.h2.ints, h.h3.ints, h.h4.ints⟩
/-- the slices lie below a block -/
def Below4 (v1 v2 v3 v4 : Value) (top : Nat) : Prop := ∀ k, (v1.ownBlock = some k ∨ v2.ownBlock = some k ∨ v3.ownBlock = some k ∨ v4.ownBlock = some k) → k < top
theorem Own4.below {w0 w : World} {v1 v2 v3 v4 : Value} {g o t q : List Int} (h : Own4 w0 w v1 v2 v3 v4 g o t q) : Below4 v1 v2 v3 v4 w.heap.size := by
  rintro k (hk | hk | hk | hk)
  · exact (h.h1.blk k hk).2
  · exact (h.h2.blk k hk).2
  · exact (h.h3.blk k hk).2
  · exact (h.h4.blk k hk).2
theorem Own.kept_low {TI : TypeId} {w0 w w' : World} {v : Value} {l : List Int} {row : Option Nat} (h : Own TI w0 w v l) (hg : w.grownBy w' row) (hr : ∀ k, row = some k → k < w0.heap.size) : Own TI w0 w' v l :=
  h.kept hg (by
    cases hq : v.ownBlock with
    | none => exact Or.inl rfl
    | some k => exact Or.inr fun e => by have := hr k e.symm; have := (h.blk k hq).1; omega)
theorem Own.kept_high {TI : TypeId} {w0 w w' : World} {v : Value} {l : List Int} {row : Option Nat} (h : Own TI w0 w v l) (hg : w.grownBy w' row) (hr : ∀ k, row = some k → v.ownBlock ≠ some k) : Own TI w0 w' v l :=
  h.kept hg (by
    cases hq : v.ownBlock with
    | none => exact Or.inl rfl
    | some k => exact Or.inr fun e => hr k e.symm hq)
theorem Own4.kept {w0 w w' : World} {v1 v2 v3 v4 : Value} {g o t q : List Int} {row : Option Nat} (h : Own4 w0 w v1 v2 v3 v4 g o t q) (hg : w.grownBy w' row) (hr : ∀ k, row = some k → k < w0.heap.size) : Own4 w0 w' v1 v2 v3 v4 g o t q :=
  ⟨h.h1.kept_low hg hr, h.h2.kept_low hg hr, h.h3.kept_low hg hr, h.h4.kept_low hg hr, h.d12, h.d13, h.d14, h.d23, h.d24, h.d34⟩
/-- a value of type Claim -/
def CV (k : Int) (v1 v2 : Value) (a b s p : Int) (v3 v4 : Value) (n : Int) : Value := .agg #[.int .i64 k, v1, v2, .int .i64 a, .int .i64 b, .int .i64 s, .int .i64 p, v3, v4, .int .i64 n]

theorem eqClaim_same (k a b s p n : Int) (g o t q : List Int) (v1 v2 v3 v4 u1 u2 u3 u4 : Value) (w : World) (h : Ints4 w v1 v2 v3 v4 g o t q) (h' : Ints4 w u1 u2 u3 u4 g o t q) :
    Calls Try.prog 15 #[CV k v1 v2 a b s p v3 v4 n, CV k u1 u2 a b s p u3 u4 n] w fun e w' => e = .returned (.bool true) ∧ Ext w w' := by
  unfold CV
  obtain ⟨wb, hwb⟩ : ∃ wb, wb = (w.alloc (.cells #[.int .i64 k, v1, v2, .int .i64 a, .int .i64 b, .int .i64 s, .int .i64 p, v3, v4, .int .i64 n] 32)).alloc (.cells #[.int .i64 k, u1, u2, .int .i64 a, .int .i64 b, .int .i64 s, .int .i64 p, u3, u4, .int .i64 n] 32) := ⟨_, rfl⟩
  have e0 : Ext w wb := by rw [hwb]; exact ((Ext.refl _).alloc _).alloc _
  have B0 : Blk wb w.heap.size 32 #[.int .i64 k, v1, v2, .int .i64 a, .int .i64 b, .int .i64 s, .int .i64 p, v3, v4, .int .i64 n] := by rw [hwb]; exact (Blk.new _ _ _).alloc _
  have B1 : Blk wb (w.heap.size + 1) 32 #[.int .i64 k, u1, u2, .int .i64 a, .int .i64 b, .int .i64 s, .int .i64 p, u3, u4, .int .i64 n] := by rw [hwb]; simpa using Blk.new (w.alloc (.cells #[.int .i64 k, v1, v2, .int .i64 a, .int .i64 b, .int .i64 s, .int .i64 p, v3, v4, .int .i64 n] 32)) 32 #[.int .i64 k, u1, u2, .int .i64 a, .int .i64 b, .int .i64 s, .int .i64 p, u3, u4, .int .i64 n]
  have H := Lib.hid (fun W (hW : Ext wb W) => h.ext (e0.trans hW))
  have H' := Lib.hid (fun W (hW : Ext wb W) => h'.ext (e0.trans hW))
  have hE := Ext.refl wb
  have Hwb := Lib.hid hwb
  clear hwb h h'
  go_enter Try.func15, Try.ntmps15
  go_wp2_with fail
  rw [← Hwb.out]
  refine (eqGroup_any _ _ _ _ _ (H.out _ hE).g (H'.out _ hE).g).mono ?_
  rintro e w1 ⟨rfl, hE'⟩
  replace hE := hE.trans hE'
  clear hE'
  have m2 := (B0.ext hE).cell (i := 2) (v := v2) rfl
  have n2 := (B1.ext hE).cell (i := 2) (v := u2) rfl
  go_wp2_with fail
  refine (eqGroup_any _ _ _ _ _ (H.out _ hE).o (H'.out _ hE).o).mono ?_
  rintro e w2 ⟨rfl, hE'⟩
  replace hE := hE.trans hE'
  clear hE' m2 n2
  have m3 := (B0.ext hE).cell (i := 3) (v := .int .i64 a) rfl
  have n3 := (B1.ext hE).cell (i := 3) (v := .int .i64 a) rfl
  have m4 := (B0.ext hE).cell (i := 4) (v := .int .i64 b) rfl
  have n4 := (B1.ext hE).cell (i := 4) (v := .int .i64 b) rfl
  have m5 := (B0.ext hE).cell (i := 5) (v := .int .i64 s) rfl
  have n5 := (B1.ext hE).cell (i := 5) (v := .int .i64 s) rfl
  have m6 := (B0.ext hE).cell (i := 6) (v := .int .i64 p) rfl
  have n6 := (B1.ext hE).cell (i := 6) (v := .int .i64 p) rfl
  have m7 := (B0.ext hE).cell (i := 7) (v := v3) rfl
  have n7 := (B1.ext hE).cell (i := 7) (v := u3) rfl
  go_wp2_with fail
  refine (eqIntS_any _ _ _ _ _ (H.out _ hE).t (H'.out _ hE).t).mono ?_
  rintro e w3 ⟨rfl, hE'⟩
  replace hE := hE.trans hE'
  clear hE' m3 n3 m4 n4 m5 n5 m6 n6 m7 n7
  have m8 := (B0.ext hE).cell (i := 8) (v := v4) rfl
  have n8 := (B1.ext hE).cell (i := 8) (v := u4) rfl
  go_wp2_with fail
  refine (eqIntS_any _ _ _ _ _ (H.out _ hE).q (H'.out _ hE).q).mono ?_
  rintro e w4 ⟨rfl, hE'⟩
  replace hE := hE.trans hE'
  clear hE' m8 n8
  have m9 := (B0.ext hE).cell (i := 9) (v := .int .i64 n) rfl
  have n9 := (B1.ext hE).cell (i := 9) (v := .int .i64 n) rfl
  go_wp2_with fail
  go_ret
  exact ⟨rfl, e0.trans hE⟩
theorem markClaim_any (k a b s p n k0 : Int) (g o t q : List Int) (v1 v2 v3 v4 : Value) (w0 w : World) (top : Nat) (h : Own4 w0 w v1 v2 v3 v4 g o t q) (hT : Below4 v1 v2 v3 v4 top) (hsz : top ≤ w.heap.size) (h1 : 0 ≤ k0) (h2 : k0 ≤ 1048576) (hg : g.length ≤ 1050000) (ho : o.length ≤ 1050000) (ht : t.length ≤ 1050000) :
    Calls Try.prog 18 #[CV k v1 v2 a b s p v3 v4 n, .int .i64 k0] w fun e w' => e = .returned (.int .i64 (k0 + g.length + o.length + t.length + q.length)) ∧
      Own4 w0 w' v1 v2 v3 v4 (marks k0 g.length) (marks (k0 + g.length) o.length) (marks (k0 + g.length + o.length) t.length) (marks (k0 + g.length + o.length + t.length) q.length) ∧
      (∀ b, Ext b w → b.heap.size ≤ w0.heap.size → Ext b w') ∧ (∀ wz v' l', top ≤ wz.heap.size → Own 3 wz w v' l' → Own 3 wz w' v' l') ∧ (∀ b T cs, top ≤ b → Blk w b T cs → Blk w' b T cs) := by
  unfold CV
  have hv1 := h.h1.alloc (.cells #[.int .i64 k, v1, v2, .int .i64 a, .int .i64 b, .int .i64 s, .int .i64 p, v3, v4, .int .i64 n] 32)
  have hv2 := h.h2.alloc (.cells #[.int .i64 k, v1, v2, .int .i64 a, .int .i64 b, .int .i64 s, .int .i64 p, v3, v4, .int .i64 n] 32)
  have hv3 := h.h3.alloc (.cells #[.int .i64 k, v1, v2, .int .i64 a, .int .i64 b, .int .i64 s, .int .i64 p, v3, v4, .int .i64 n] 32)
  have hv4 := h.h4.alloc (.cells #[.int .i64 k, v1, v2, .int .i64 a, .int .i64 b, .int .i64 s, .int .i64 p, v3, v4, .int .i64 n] 32)
  have B0 := Blk.new w 32 #[.int .i64 k, v1, v2, .int .i64 a, .int .i64 b, .int .i64 s, .int .i64 p, v3, v4, .int .i64 n]
  have c1 : ∀ j, v1.ownBlock = some j → w0.heap.size ≤ j ∧ j < top := fun j hj => ⟨(h.h1.blk j hj).1, hT j (Or.inl hj)⟩
  have c2 : ∀ j, v2.ownBlock = some j → w0.heap.size ≤ j ∧ j < top := fun j hj => ⟨(h.h2.blk j hj).1, hT j (Or.inr (Or.inl hj))⟩
  have c3 : ∀ j, v3.ownBlock = some j → w0.heap.size ≤ j ∧ j < top := fun j hj => ⟨(h.h3.blk j hj).1, hT j (Or.inr (Or.inr (Or.inl hj)))⟩
  have c4 : ∀ j, v4.ownBlock = some j → w0.heap.size ≤ j ∧ j < top := fun j hj => ⟨(h.h4.blk j hj).1, hT j (Or.inr (Or.inr (Or.inr hj)))⟩
  obtain ⟨-, -, -, -, d12, d13, d14, d23, d24, d34⟩ := h
  go_enter Try.func18, Try.ntmps18
  go_wp2_with fail
  refine (markGroup_any _ _ _ _ _ hv1 h1 (by omega)).mono ?_
  rintro e w1 ⟨rfl, hv1, hG1⟩
  replace hv2 := hv2.kept hG1 d12.symm.or
  replace hv3 := hv3.kept hG1 d13.symm.or
  replace hv4 := hv4.kept hG1 d14.symm.or
  have B1 := B0.grown hG1 (fun j hj => by have := (c1 j hj).2; omega)
  have z := B1.cell (i := 2) (v := v2) rfl
  go_wp2_with fail
  refine (markGroup_any _ _ _ _ _ hv2 (by omega) (by omega)).mono ?_
  rintro e w2 ⟨rfl, hv2, hG2⟩
  replace hv1 := hv1.kept hG2 d12.or
  replace hv3 := hv3.kept hG2 d23.symm.or
  replace hv4 := hv4.kept hG2 d24.symm.or
  have B2 := B1.grown hG2 (fun j hj => by have := (c2 j hj).2; omega)
  clear z
  have z := B2.cell (i := 7) (v := v3) rfl
  go_wp2_with fail
  refine (markIntS_any _ _ _ _ _ hv3 (by omega) (by omega)).mono ?_
  rintro e w3 ⟨rfl, hv3, hG3⟩
  replace hv1 := hv1.kept hG3 d13.or
  replace hv2 := hv2.kept hG3 d23.or
  replace hv4 := hv4.kept hG3 d34.symm.or
  have B3 := B2.grown hG3 (fun j hj => by have := (c3 j hj).2; omega)
  clear z
  have z := B3.cell (i := 8) (v := v4) rfl
  go_wp2_with fail
  refine (markIntS_any _ _ _ _ _ hv4 (by omega) (by omega)).mono ?_
  rintro e w4 ⟨rfl, hv4, hG4⟩
  replace hv1 := hv1.kept hG4 d14.or
  replace hv2 := hv2.kept hG4 d24.or
  replace hv3 := hv3.kept hG4 d34.or
  go_wp2_with fail
  go_ret
  refine ⟨rfl, ⟨hv1, hv2, hv3, hv4, d12, d13, d14, d23, d24, d34⟩, fun b hb hbs => ?_, fun wz v' l' hz hO => ?_, fun b T cs hb hB => ?_⟩
  · exact ((((hb.alloc _).grown hG1 (fun j hj => Nat.le_trans hbs (c1 j hj).1)).grown hG2 (fun j hj => Nat.le_trans hbs (c2 j hj).1)).grown hG3 (fun j hj => Nat.le_trans hbs (c3 j hj).1)).grown hG4 (fun j hj => Nat.le_trans hbs (c4 j hj).1)
  · exact ((((hO.alloc _).kept_low hG1 (fun j hj => Nat.lt_of_lt_of_le (c1 j hj).2 hz)).kept_low hG2 (fun j hj => Nat.lt_of_lt_of_le (c2 j hj).2 hz)).kept_low hG3 (fun j hj => Nat.lt_of_lt_of_le (c3 j hj).2 hz)).kept_low hG4 (fun j hj => Nat.lt_of_lt_of_le (c4 j hj).2 hz)
  · exact ((((hB.alloc _).grown hG1 (fun j hj => by have := (c1 j hj).2; omega)).grown hG2 (fun j hj => by have := (c2 j hj).2; omega)).grown hG3 (fun j hj => by have := (c3 j hj).2; omega)).grown hG4 (fun j hj => by have := (c4 j hj).2; omega)
theorem heldClaim_any (k a b s p n k0 : Int) (c1 c2 c3 c4 : Nat) (v1 v2 v3 v4 : Value) (w : World) (h : Ints4 w v1 v2 v3 v4 (marks k0 c1) (marks (k0 + c1) c2) (marks (k0 + c1 + c2) c3) (marks (k0 + c1 + c2 + c3) c4)) (h1 : 0 ≤ k0) (h2 : k0 ≤ 1048576) (b1 : c1 ≤ 1050000) (b2 : c2 ≤ 1050000) (b3 : c3 ≤ 1050000) (b4 : c4 ≤ 1050000) :
    Calls Try.prog 19 #[CV k v1 v2 a b s p v3 v4 n, .int .i64 k0] w fun e w' => e = .returned (.int .i64 (k0 + c1 + c2 + c3 + c4)) ∧ Ext w w' := by
  unfold CV
  have hE0 := (Ext.refl w).alloc (.cells #[.int .i64 k, v1, v2, .int .i64 a, .int .i64 b, .int .i64 s, .int .i64 p, v3, v4, .int .i64 n] 32)
  have B0 := Blk.new w 32 #[.int .i64 k, v1, v2, .int .i64 a, .int .i64 b, .int .i64 s, .int .i64 p, v3, v4, .int .i64 n]
  have hp1 : ¬ k0 + (c1 : Int) < 0 := by omega
  have hp2 : ¬ k0 + (c1 : Int) + (c2 : Int) < 0 := by omega
  have hp3 : ¬ k0 + (c1 : Int) + (c2 : Int) + (c3 : Int) < 0 := by omega
  have hp4 : ¬ k0 + (c1 : Int) + (c2 : Int) + (c3 : Int) + (c4 : Int) < 0 := by omega
  go_enter Try.func19, Try.ntmps19
  go_wp2_with fail
  refine (heldGroup_any _ _ _ _ (h.g.ext hE0) h1 (by omega)).mono ?_
  rintro e w1 ⟨rfl, hE1⟩
  have z := (B0.ext hE1).cell (i := 2) (v := v2) rfl
  go_wp2_with fail
  refine (heldGroup_any _ _ _ _ (h.o.ext (hE0.trans hE1)) (by omega) (by omega)).mono ?_
  rintro e w2 ⟨rfl, hE2⟩
  clear z
  have z := (B0.ext (hE1.trans hE2)).cell (i := 7) (v := v3) rfl
  have z8 := (B0.ext (hE1.trans hE2)).cell (i := 8) (v := v4) rfl
  go_wp2_with fail
  refine (heldIntS_any _ _ _ _ (h.t.ext (hE0.trans (hE1.trans hE2))) (by omega) (by omega)).mono ?_
  rintro e w3 ⟨rfl, rfl⟩
  go_wp2_with fail
  refine (heldIntS_any _ _ _ _ (h.q.ext (hE0.trans (hE1.trans hE2))) (by omega) (by omega)).mono ?_
  rintro e w4 ⟨rfl, rfl⟩
  go_wp2_with fail
  go_ret
  exact ⟨rfl, hE0.trans (hE1.trans hE2)⟩
end Go.Zz

/- Claims: the laws' helpers that size and copy. -/
namespace Go.Zz
open Go.RowKit Go.Proofs
set_option maxHeartbeats 4000000
set_option maxRecDepth 20000

def szC (g o t q : List Int) (left : Int) : Int := if szL g left < 0 then -1 else if szL o (szL g left) < 0 then -1 else if szL t (szL o (szL g left)) < 0 then -1 else szL q (szL t (szL o (szL g left)))
theorem szClaim_any (k a b s p n : Int) (g o t q : List Int) (v1 v2 v3 v4 : Value) (left : Int) (w : World) (h : Ints4 w v1 v2 v3 v4 g o t q) (h1 : 0 ≤ left) (h2 : left ≤ 1048576) :
    Calls Try.prog 22 #[CV k v1 v2 a b s p v3 v4 n, .int .i64 left] w fun e w' => e = .returned (.int .i64 (szC g o t q left)) ∧ Ext w w' := by
  unfold CV
  obtain ⟨wb, hwb⟩ : ∃ wb, wb = w.alloc (.cells #[.int .i64 k, v1, v2, .int .i64 a, .int .i64 b, .int .i64 s, .int .i64 p, v3, v4, .int .i64 n] 44) := ⟨_, rfl⟩
  have hE0 : Ext w wb := by rw [hwb]; exact (Ext.refl _).alloc _
  have B0 : Blk wb w.heap.size 44 #[.int .i64 k, v1, v2, .int .i64 a, .int .i64 b, .int .i64 s, .int .i64 p, v3, v4, .int .i64 n] := by rw [hwb]; exact Blk.new _ _ _
  have H : ∀ W, Ext wb W → Ints4 W v1 v2 v3 v4 g o t q := fun W hW => h.ext (hE0.trans hW)
  have hE := Ext.refl wb
  have Hwb := Lib.hid hwb
  clear hwb h
  rcases szL_cases g h1 with s1 | ⟨s1, s1'⟩
  · have Hz : Hid (szC g o t q left = -1) := Lib.hid (by unfold szC; rw [if_pos (by omega)])
    have s1x : szL g left < 0 := by omega
    clear s1
    go_enter Try.func22, Try.ntmps22
    go_wp2_with fail
    rw [← Hwb.out]
    refine (szGroup_any _ _ _ _ (H _ hE).g h1 h2).mono ?_
    rintro e w1 ⟨rfl, hE1⟩
    go_wp2_with fail
    go_ret
    exact ⟨ret_int Hz.out.symm, hE0.trans hE1⟩
  rcases szL_cases o s1 with s2 | ⟨s2, s2'⟩
  · have Hz : Hid (szC g o t q left = -1) := Lib.hid (by unfold szC; rw [if_neg (by omega), if_pos (by omega)])
    have s2x : szL o (szL g left) < 0 := by omega
    clear s2
    go_enter Try.func22, Try.ntmps22
    go_wp2_with fail
    rw [← Hwb.out]
    refine (szGroup_any _ _ _ _ (H _ hE).g h1 h2).mono ?_
    rintro e w1 ⟨rfl, hE1⟩
    have z2 := (B0.ext hE1).cell (i := 2) (v := v2) rfl
    go_wp2_with fail
    refine (szGroup_any _ _ _ _ (H _ hE1).o s1 (by omega)).mono ?_
    rintro e w2 ⟨rfl, hE2⟩
    have hE12 := hE1.trans hE2
    have z7 := (B0.ext hE12).cell (i := 7) (v := v3) rfl
    have z8 := (B0.ext hE12).cell (i := 8) (v := v4) rfl
    go_wp2_with fail
    go_ret
    exact ⟨ret_int Hz.out.symm, hE0.trans (hE1.trans hE2)⟩
  rcases szL_cases t s2 with s3 | ⟨s3, s3'⟩
  · have Hz : Hid (szC g o t q left = -1) := Lib.hid (by unfold szC; rw [if_neg (by omega), if_neg (by omega), if_pos (by omega)])
    have s3x : szL t (szL o (szL g left)) < 0 := by omega
    clear s3
    go_enter Try.func22, Try.ntmps22
    go_wp2_with fail
    rw [← Hwb.out]
    refine (szGroup_any _ _ _ _ (H _ hE).g h1 h2).mono ?_
    rintro e w1 ⟨rfl, hE1⟩
    have z2 := (B0.ext hE1).cell (i := 2) (v := v2) rfl
    go_wp2_with fail
    refine (szGroup_any _ _ _ _ (H _ hE1).o s1 (by omega)).mono ?_
    rintro e w2 ⟨rfl, hE2⟩
    have hE12 := hE1.trans hE2
    have z7 := (B0.ext hE12).cell (i := 7) (v := v3) rfl
    have z8 := (B0.ext hE12).cell (i := 8) (v := v4) rfl
    go_wp2_with fail
    refine (szIntS_any _ _ _ _ (H _ hE12).t s2 (by omega)).mono ?_
    rintro e w3 ⟨rfl, rfl⟩
    go_wp2_with fail
    go_ret
    exact ⟨ret_int Hz.out.symm, hE0.trans hE12⟩
  have Hz : Hid (szC g o t q left = szL q (szL t (szL o (szL g left)))) := Lib.hid (by unfold szC; rw [if_neg (by omega), if_neg (by omega), if_neg (by omega)])
  rcases szL_cases q s3 with s4 | ⟨s4, s4'⟩
  · have s4x : szL q (szL t (szL o (szL g left))) < 0 := by omega
    have S4 := Lib.hid s4
    clear s4
    go_enter Try.func22, Try.ntmps22
    go_wp2_with fail
    rw [← Hwb.out]
    refine (szGroup_any _ _ _ _ (H _ hE).g h1 h2).mono ?_
    rintro e w1 ⟨rfl, hE1⟩
    have z2 := (B0.ext hE1).cell (i := 2) (v := v2) rfl
    go_wp2_with fail
    refine (szGroup_any _ _ _ _ (H _ hE1).o s1 (by omega)).mono ?_
    rintro e w2 ⟨rfl, hE2⟩
    have hE12 := hE1.trans hE2
    have z7 := (B0.ext hE12).cell (i := 7) (v := v3) rfl
    have z8 := (B0.ext hE12).cell (i := 8) (v := v4) rfl
    go_wp2_with fail
    refine (szIntS_any _ _ _ _ (H _ hE12).t s2 (by omega)).mono ?_
    rintro e w3 ⟨rfl, rfl⟩
    go_wp2_with fail
    refine (szIntS_any _ _ _ _ (H _ hE12).q s3 (by omega)).mono ?_
    rintro e w3 ⟨rfl, rfl⟩
    go_wp2_with fail
    go_ret
    exact ⟨ret_int (by rw [Hz.out, S4.out]), hE0.trans hE12⟩
  ·
    go_enter Try.func22, Try.ntmps22
    go_wp2_with fail
    rw [← Hwb.out]
    refine (szGroup_any _ _ _ _ (H _ hE).g h1 h2).mono ?_
    rintro e w1 ⟨rfl, hE1⟩
    have z2 := (B0.ext hE1).cell (i := 2) (v := v2) rfl
    go_wp2_with fail
    refine (szGroup_any _ _ _ _ (H _ hE1).o s1 (by omega)).mono ?_
    rintro e w2 ⟨rfl, hE2⟩
    have hE12 := hE1.trans hE2
    have z7 := (B0.ext hE12).cell (i := 7) (v := v3) rfl
    have z8 := (B0.ext hE12).cell (i := 8) (v := v4) rfl
    go_wp2_with fail
    refine (szIntS_any _ _ _ _ (H _ hE12).t s2 (by omega)).mono ?_
    rintro e w3 ⟨rfl, rfl⟩
    go_wp2_with fail
    refine (szIntS_any _ _ _ _ (H _ hE12).q s3 (by omega)).mono ?_
    rintro e w3 ⟨rfl, rfl⟩
    go_wp2_with fail
    go_ret
    exact ⟨ret_int Hz.out.symm, hE0.trans hE12⟩
theorem toClaim_any (k a b s p n : Int) (g o t q : List Int) (v1 v2 v3 v4 : Value) (w : World) (h : Ints4 w v1 v2 v3 v4 g o t q) :
    Calls Try.prog 24 #[CV k v1 v2 a b s p v3 v4 n] w fun e w' => ∃ u1 u2 u3 u4, e = .returned (CV k u1 u2 a b s p u3 u4 n) ∧ Own4 w w' u1 u2 u3 u4 g o t q ∧ Ext w w' := by
  unfold CV
  obtain ⟨wb, hwb⟩ : ∃ wb, wb = ((w.alloc (.cells #[.int .i64 k, v1, v2, .int .i64 a, .int .i64 b, .int .i64 s, .int .i64 p, v3, v4, .int .i64 n] 44)).alloc (.cells #[.int .i64 0, .slice none 0 0, .slice none 0 0, .int .i64 0, .int .i64 0, .int .i64 0, .int .i64 0, .slice none 0 0, .slice none 0 0, .int .i64 0] 32)).alloc (.cells #[.int .i64 k, .slice none 0 0, .slice none 0 0, .int .i64 0, .int .i64 0, .int .i64 0, .int .i64 0, .slice none 0 0, .slice none 0 0, .int .i64 0] 32) := ⟨_, rfl⟩
  have e0 : Ext w wb := by rw [hwb]; exact (((Ext.refl _).alloc _).alloc _).alloc _
  have sb : wb.heap.size = w.heap.size + 3 := by rw [hwb]; simp
  have B0 : Blk wb w.heap.size 44 #[.int .i64 k, v1, v2, .int .i64 a, .int .i64 b, .int .i64 s, .int .i64 p, v3, v4, .int .i64 n] := by rw [hwb]; exact ((Blk.new _ _ _).alloc _).alloc _
  have B1 : Blk wb (w.heap.size + 1) 32 #[.int .i64 0, .slice none 0 0, .slice none 0 0, .int .i64 0, .int .i64 0, .int .i64 0, .int .i64 0, .slice none 0 0, .slice none 0 0, .int .i64 0] := by rw [hwb]; exact (by simpa using Blk.new (w.alloc (.cells #[.int .i64 k, v1, v2, .int .i64 a, .int .i64 b, .int .i64 s, .int .i64 p, v3, v4, .int .i64 n] 44)) 32 #[.int .i64 0, .slice none 0 0, .slice none 0 0, .int .i64 0, .int .i64 0, .int .i64 0, .int .i64 0, .slice none 0 0, .slice none 0 0, .int .i64 0] : Blk _ (w.heap.size + 1) _ _).alloc _
  have B2 : Blk wb (w.heap.size + 1 + 1) 32 #[.int .i64 k, .slice none 0 0, .slice none 0 0, .int .i64 0, .int .i64 0, .int .i64 0, .int .i64 0, .slice none 0 0, .slice none 0 0, .int .i64 0] := by rw [hwb]; simpa using Blk.new ((w.alloc (.cells #[.int .i64 k, v1, v2, .int .i64 a, .int .i64 b, .int .i64 s, .int .i64 p, v3, v4, .int .i64 n] 44)).alloc (.cells #[.int .i64 0, .slice none 0 0, .slice none 0 0, .int .i64 0, .int .i64 0, .int .i64 0, .int .i64 0, .slice none 0 0, .slice none 0 0, .int .i64 0] 32)) 32 #[.int .i64 k, .slice none 0 0, .slice none 0 0, .int .i64 0, .int .i64 0, .int .i64 0, .int .i64 0, .slice none 0 0, .slice none 0 0, .int .i64 0]
  have low : w.heap.size ≤ w.heap.size + 1 + 1 := by omega
  have HH : Hid (∀ W, Ext w W → Ints4 W v1 v2 v3 v4 g o t q) := Lib.hid fun W hW => h.ext hW
  have Hwb := Lib.hid hwb
  have Sb := Lib.hid sb
  clear hwb h sb
  go_enter Try.func24, Try.ntmps24
  go_wp2_with fail
  rw [← Hwb.out]
  have x1 : Ext w wb := e0
  refine (toGroup_any _ _ _ (HH.out _ x1).g).mono ?_
  rintro e w1 ⟨u1, rfl, hO1, hE1⟩
  obtain ⟨ao1, k1, rfl, -⟩ := hO1.shape
  have C0 := B0.ext hE1
  have C1 := B1.ext hE1
  have C2 := B2.ext hE1
  have e1 := x1.trans hE1
  have big1 : w.heap.size + 1 + 1 < wb.heap.size := by have := Sb.out; omega
  clear B0 B1 B2
  have p1 := C2.cell (i := 1) (v := .slice none 0 0) rfl
  have f1 := C2.free 1
  have r2 := C0.cell (i := 2) (v := v2) rfl
  go_wp2_with fail
  have x2 : Ext w (w1.setCell ⟨w.heap.size + 1 + 1, 1, none⟩ (.slice ao1 g.length k1)) := e1.setCell low _
  refine (toGroup_any _ _ _ (HH.out _ x2).o).mono ?_
  rintro e w2 ⟨u2, rfl, hO2, hE2⟩
  obtain ⟨ao2, k2, rfl, -⟩ := hO2.shape
  have big2 : w.heap.size + 1 + 1 < (w1.setCell ⟨w.heap.size + 1 + 1, 1, none⟩ (.slice ao1 g.length k1)).heap.size := by have := hE1.size; simp at *; omega
  replace hO1 := hO1.setCell_below (p := ⟨w.heap.size + 1 + 1, 1, none⟩) big1 (.slice ao1 g.length k1)
  have d12 := apart_of hO1 hO2 (Nat.le_refl _)
  have D0 := (C0.other (p := ⟨w.heap.size + 1 + 1, 1, none⟩) (by simp <;> omega) (.slice ao1 g.length k1)).ext hE2
  have D1 := (C1.other (p := ⟨w.heap.size + 1 + 1, 1, none⟩) (by simp <;> omega) (.slice ao1 g.length k1)).ext hE2
  have D2 := (C2.set 1 (.slice ao1 g.length k1)).ext hE2
  replace hO1 := hO1.ext hE2
  have e2 := x2.trans hE2
  clear C0 C1 C2 p1 f1 r2
  have p2 := D2.cell (i := 2) (v := .slice none 0 0) rfl
  have f2 := D2.free 2
  have p3 := D2.cell (i := 3) (v := .int .i64 0) rfl
  have f3 := D2.free 3
  have p4 := D2.cell (i := 4) (v := .int .i64 0) rfl
  have f4 := D2.free 4
  have p5 := D2.cell (i := 5) (v := .int .i64 0) rfl
  have f5 := D2.free 5
  have p6 := D2.cell (i := 6) (v := .int .i64 0) rfl
  have f6 := D2.free 6
  have r3 := D0.cell (i := 3) (v := .int .i64 a) rfl
  have r4 := D0.cell (i := 4) (v := .int .i64 b) rfl
  have r5 := D0.cell (i := 5) (v := .int .i64 s) rfl
  have r6 := D0.cell (i := 6) (v := .int .i64 p) rfl
  have r7 := D0.cell (i := 7) (v := v3) rfl
  go_wp2_with fail
  obtain ⟨wx, hwx⟩ : ∃ wx, wx = ((((w2.setCell ⟨w.heap.size + 1 + 1, 2, none⟩ (.slice ao2 o.length k2)).setCell ⟨w.heap.size + 1 + 1, 3, none⟩ (.int .i64 a)).setCell ⟨w.heap.size + 1 + 1, 4, none⟩ (.int .i64 b)).setCell ⟨w.heap.size + 1 + 1, 5, none⟩ (.int .i64 s)).setCell ⟨w.heap.size + 1 + 1, 6, none⟩ (.int .i64 p) := ⟨_, rfl⟩
  rw [← hwx]
  have x3 : Ext w wx := by rw [hwx]; exact ((((e2.setCell low _).setCell low _).setCell low _).setCell low _).setCell low _
  refine (toIntS_any _ _ _ (HH.out _ x3).t).mono ?_
  rintro e w3 ⟨u3, rfl, hO3, hE3⟩
  obtain ⟨ao3, k3, rfl, -⟩ := hO3.shape
  have E0 : Blk wx w.heap.size 44 #[.int .i64 k, v1, v2, .int .i64 a, .int .i64 b, .int .i64 s, .int .i64 p, v3, v4, .int .i64 n] := by rw [hwx]; exact ((((D0.other (by simp <;> omega) _).other (by simp <;> omega) _).other (by simp <;> omega) _).other (by simp <;> omega) _).other (by simp <;> omega) _
  have E1 : Blk wx (w.heap.size + 1) 32 #[.int .i64 0, .slice none 0 0, .slice none 0 0, .int .i64 0, .int .i64 0, .int .i64 0, .int .i64 0, .slice none 0 0, .slice none 0 0, .int .i64 0] := by rw [hwx]; exact ((((D1.other (by simp <;> omega) _).other (by simp <;> omega) _).other (by simp <;> omega) _).other (by simp <;> omega) _).other (by simp <;> omega) _
  have E2 : Blk wx (w.heap.size + 1 + 1) 32 #[.int .i64 k, .slice ao1 g.length k1, .slice ao2 o.length k2, .int .i64 a, .int .i64 b, .int .i64 s, .int .i64 p, .slice none 0 0, .slice none 0 0, .int .i64 0] := by rw [hwx]; exact ((((D2.set 2 _).set 3 _).set 4 _).set 5 _).set 6 _
  replace hO1 : Own 3 wb wx (.slice ao1 g.length k1) g := by rw [hwx]; exact ((((hO1.setCell_below big1 _).setCell_below big1 _).setCell_below big1 _).setCell_below big1 _).setCell_below big1 _
  replace hO2 : Own 3 (w1.setCell ⟨w.heap.size + 1 + 1, 1, none⟩ (.slice ao1 g.length k1)) wx (.slice ao2 o.length k2) o := by rw [hwx]; exact ((((hO2.setCell_below big2 _).setCell_below big2 _).setCell_below big2 _).setCell_below big2 _).setCell_below big2 _
  have d13 := apart_of hO1 hO3 (Nat.le_refl _)
  have d23 := apart_of hO2 hO3 (Nat.le_refl _)
  replace E0 := E0.ext hE3
  replace E1 := E1.ext hE3
  replace E2 := E2.ext hE3
  replace hO1 := hO1.ext hE3
  replace hO2 := hO2.ext hE3
  have sx : wx.heap.size = w2.heap.size := by rw [hwx]; simp
  have big3 : w.heap.size + 1 + 1 < wx.heap.size := by rw [sx]; exact Nat.lt_of_lt_of_le big2 hE2.size
  have e3 := x3.trans hE3
  have X3 := Lib.hid x3
  clear hwx D0 D1 D2 p2 f2 p3 f3 p4 f4 p5 f5 p6 f6 r3 r4 r5 r6 r7 sx x3
  have p7 := E2.cell (i := 7) (v := .slice none 0 0) rfl
  have f7 := E2.free 7
  have r8 := E0.cell (i := 8) (v := v4) rfl
  go_wp2_with fail
  have x4 : Ext w (w3.setCell ⟨w.heap.size + 1 + 1, 7, none⟩ (.slice ao3 t.length k3)) := e3.setCell low _
  refine (toIntS_any _ _ _ (HH.out _ x4).q).mono ?_
  rintro e w4 ⟨u4, rfl, hO4, hE4⟩
  obtain ⟨ao4, k4, rfl, -⟩ := hO4.shape
  replace hO1 := hO1.setCell_below (p := ⟨w.heap.size + 1 + 1, 7, none⟩) big1 (.slice ao3 t.length k3)
  replace hO2 := hO2.setCell_below (p := ⟨w.heap.size + 1 + 1, 7, none⟩) big2 (.slice ao3 t.length k3)
  replace hO3 := hO3.setCell_below (p := ⟨w.heap.size + 1 + 1, 7, none⟩) big3 (.slice ao3 t.length k3)
  have d14 := apart_of hO1 hO4 (Nat.le_refl _)
  have d24 := apart_of hO2 hO4 (Nat.le_refl _)
  have d34 := apart_of hO3 hO4 (Nat.le_refl _)
  have F0 := (E0.other (p := ⟨w.heap.size + 1 + 1, 7, none⟩) (by simp <;> omega) (.slice ao3 t.length k3)).ext hE4
  have F1 := (E1.other (p := ⟨w.heap.size + 1 + 1, 7, none⟩) (by simp <;> omega) (.slice ao3 t.length k3)).ext hE4
  have F2 : Blk w4 (w.heap.size + 1 + 1) 32 #[.int .i64 k, .slice ao1 g.length k1, .slice ao2 o.length k2, .int .i64 a, .int .i64 b, .int .i64 s, .int .i64 p, .slice ao3 t.length k3, .slice none 0 0, .int .i64 0] := (E2.set 7 (.slice ao3 t.length k3)).ext hE4
  replace hO1 := hO1.ext hE4
  replace hO2 := hO2.ext hE4
  replace hO3 := hO3.ext hE4
  have e4 := x4.trans hE4
  have s4 : (w3.setCell ⟨w.heap.size + 1 + 1, 7, none⟩ (.slice ao3 t.length k3)).heap.size = w3.heap.size := by simp
  have big4 : w.heap.size + 1 + 1 < (w3.setCell ⟨w.heap.size + 1 + 1, 7, none⟩ (.slice ao3 t.length k3)).heap.size := by rw [s4]; exact Nat.lt_of_lt_of_le big3 hE3.size
  have hQ : Own4 w w4 (.slice ao1 g.length k1) (.slice ao2 o.length k2) (.slice ao3 t.length k3) (.slice ao4 q.length k4) g o t q := ⟨hO1.mono x1, hO2.mono x2, hO3.mono X3.out, hO4.mono x4, d12, d13, d14, d23, d24, d34⟩
  have Big := Lib.hid (⟨hO1, hO2, hO3, hO4⟩ : _ ∧ _ ∧ _ ∧ _)
  have HQ := Lib.hid hQ
  have X1 := Lib.hid x1
  have X2 := Lib.hid x2
  have X4 := Lib.hid x4
  clear s4 E0 E1 E2 p7 f7 r8 hO1 hO2 hO3 hO4 d12 d13 d14 d23 d24 d34 hQ x1 x2 x4
  have p8 := F2.cell (i := 8) (v := .slice none 0 0) rfl
  have f8 := F2.free 8
  have p9 := F2.cell (i := 9) (v := .int .i64 0) rfl
  have f9 := F2.free 9
  have r9 := F0.cell (i := 9) (v := .int .i64 n) rfl
  have q0 := F2.cell (i := 0) (v := .int .i64 k) rfl
  have q1 := F2.cell (i := 1) (v := .slice ao1 g.length k1) rfl
  have q2 := F2.cell (i := 2) (v := .slice ao2 o.length k2) rfl
  have q3 := F2.cell (i := 3) (v := .int .i64 a) rfl
  have q4 := F2.cell (i := 4) (v := .int .i64 b) rfl
  have q5 := F2.cell (i := 5) (v := .int .i64 s) rfl
  have q6 := F2.cell (i := 6) (v := .int .i64 p) rfl
  have q7 := F2.cell (i := 7) (v := .slice ao3 t.length k3) rfl
  have y0 := F1.cell (i := 0) (v := .int .i64 0) rfl
  have y1 := F1.cell (i := 1) (v := .slice none 0 0) rfl
  have y2 := F1.cell (i := 2) (v := .slice none 0 0) rfl
  have y3 := F1.cell (i := 3) (v := .int .i64 0) rfl
  have y4 := F1.cell (i := 4) (v := .int .i64 0) rfl
  have y5 := F1.cell (i := 5) (v := .int .i64 0) rfl
  have y6 := F1.cell (i := 6) (v := .int .i64 0) rfl
  have y7 := F1.cell (i := 7) (v := .slice none 0 0) rfl
  have y8 := F1.cell (i := 8) (v := .slice none 0 0) rfl
  have y9 := F1.cell (i := 9) (v := .int .i64 0) rfl
  have z0 := F1.free 0
  have z1 := F1.free 1
  have z2 := F1.free 2
  have z3 := F1.free 3
  have z4 := F1.free 4
  have z5 := F1.free 5
  have z6 := F1.free 6
  have z7 := F1.free 7
  have z8 := F1.free 8
  have z9 := F1.free 9
  go_wp2_with fail
  refine bodyPost_ret (v := .agg #[.int .i64 k, .slice ao1 g.length k1, .slice ao2 o.length k2, .int .i64 a, .int .i64 b, .int .i64 s, .int .i64 p, .slice ao3 t.length k3, .slice ao4 q.length k4, .int .i64 n]) (by simp [results, Try.results24, go_sem, y0, y1, y2, y3, y4, y5, y6, y7, y8, y9]) rfl ⟨_, _, _, _, rfl, ?_, ?_⟩
  · obtain ⟨-, -, -, -, d12, d13, d14, d23, d24, d34⟩ := HQ.out
    obtain ⟨hO1, hO2, hO3, hO4⟩ := Big.out
    refine ⟨Own.mono ?_ X1.out, Own.mono ?_ X2.out, Own.mono ?_ X3.out, Own.mono ?_ X4.out, d12, d13, d14, d23, d24, d34⟩
    · (repeat (refine Own.setCell_below ?_ (by first | exact big1 | (simp only []; omega)) _)); exact hO1
    · (repeat (refine Own.setCell_below ?_ (by first | exact big2 | (simp only []; omega)) _)); exact hO2
    · (repeat (refine Own.setCell_below ?_ (by first | exact big3 | (simp only []; omega)) _)); exact hO3
    · (repeat (refine Own.setCell_below ?_ (by first | exact big4 | (simp only []; omega)) _)); exact hO4
  · (repeat (refine Ext.setCell ?_ (by first | exact low | (simp only []; omega)) _)); exact e4
end Go.Zz

/- Copies of claims with their slices' shapes. -/
namespace Go.Zz
open Go.RowKit Go.Proofs
set_option maxHeartbeats 400000

theorem szC_le {g o t q : List Int} {left : Int} (h : 0 ≤ left) : szC g o t q left ≤ left := by
  unfold szC
  rcases szL_cases g h with e | ⟨e, e2⟩
  · rw [if_pos (by omega)]; omega
  rw [if_neg (by omega)]
  rcases szL_cases o e with f | ⟨f, f2⟩
  · rw [if_pos (by omega)]; omega
  rw [if_neg (by omega)]
  rcases szL_cases t f with i | ⟨i, i2⟩
  · rw [if_pos (by omega)]; omega
  rw [if_neg (by omega)]
  rcases szL_cases q i with j | ⟨j, j2⟩ <;> omega
theorem toClaim_lit (k a b s p n : Int) (g o t q : List Int) (v1 v2 v3 v4 : Value) (w : World) (h : Ints4 w v1 v2 v3 v4 g o t q) :
    Calls Try.prog 24 #[.agg #[.int .i64 k, v1, v2, .int .i64 a, .int .i64 b, .int .i64 s, .int .i64 p, v3, v4, .int .i64 n]] w fun e w' => ∃ a1 a2 a3 a4 k1 k2 k3 k4, e = .returned (.agg #[.int .i64 k, .slice a1 g.length k1, .slice a2 o.length k2, .int .i64 a, .int .i64 b, .int .i64 s, .int .i64 p, .slice a3 t.length k3, .slice a4 q.length k4, .int .i64 n]) ∧ Ints4 w' (.slice a1 g.length k1) (.slice a2 o.length k2) (.slice a3 t.length k3) (.slice a4 q.length k4) g o t q ∧ Ext w w' :=
  (toClaim_any k a b s p n g o t q v1 v2 v3 v4 w h).mono fun e w' ⟨u1, u2, u3, u4, he, hO, hE⟩ => by
    have hI := hO.ints
    obtain ⟨a1, k1, rfl, -⟩ := hO.h1.shape
    obtain ⟨a2, k2, rfl, -⟩ := hO.h2.shape
    obtain ⟨a3, k3, rfl, -⟩ := hO.h3.shape
    obtain ⟨a4, k4, rfl, -⟩ := hO.h4.shape
    exact ⟨a1, a2, a3, a4, k1, k2, k3, k4, he, hI, hE⟩
theorem eqClaim_lit (k a b s p n : Int) (g o t q : List Int) (v1 v2 v3 v4 u1 u2 u3 u4 : Value) (w : World) (h : Ints4 w v1 v2 v3 v4 g o t q) (h' : Ints4 w u1 u2 u3 u4 g o t q) :
    Calls Try.prog 15 #[.agg #[.int .i64 k, v1, v2, .int .i64 a, .int .i64 b, .int .i64 s, .int .i64 p, v3, v4, .int .i64 n], .agg #[.int .i64 k, u1, u2, .int .i64 a, .int .i64 b, .int .i64 s, .int .i64 p, u3, u4, .int .i64 n]] w fun e w' => e = .returned (.bool true) ∧ Ext w w' := eqClaim_same k a b s p n g o t q v1 v2 v3 v4 u1 u2 u3 u4 w h h'
end Go.Zz

/- Energies and sums of kept counts. -/
namespace Go.Zz
open Go.RowKit Go.Proofs
set_option maxHeartbeats 400000

end Go.Zz

/- Negatives of elements and of sets; differences of sets. -/
namespace Go.Zz
open Go.RowKit Go.Proofs
set_option maxHeartbeats 400000

theorem neg_val {x q s u : Nat} (hs : s < 24) (hq : 2 ≤ q) (hm : ((q - x % q) % q) * u ≤ 331776) :
    Value.int .i64 (wrap64 ((s : Int) + wrap64 ((((q : Int) - (x : Int) % (q : Int)) % (q : Int)) * (u : Int)))) = .int .i64 ((s + ((q - x % q) % q) * u : Nat) : Int) := by
  have h1 := Nat.mod_lt x (show 0 < q by omega)
  have e1 : (q : Int) - (x : Int) % (q : Int) = ((q - x % q : Nat) : Int) := by rw [← Int.natCast_emod]; omega
  have e2 : (((q - x % q : Nat) : Int) % (q : Int)) * (u : Int) = ((((q - x % q) % q) * u : Nat) : Int) := by rw [Int.natCast_mul, Int.natCast_emod]
  rw [e1, e2]
  generalize ((q - x % q) % q) * u = d at hm ⊢
  rw [wrapN d (by omega), ← Int.natCast_add, wrapN (s + d) (by omega)]
--%call negate 168 ext negate_any _ _ _ _ ({0}) ({1}) ({2})
theorem negate_any (v : Value) (l : List Int) (x : Nat) (w : World) (h : Ints w v l) (Hgr : Hid (isGrp l = true)) (hx : x < 16777216) :
    Calls Try.prog 168 #[.agg #[v], .int .i64 x] w fun e w' => e = .returned (.int .i64 (negF l x)) ∧ Ext w w' := by
  obtain ⟨ao, c, adr, rfl, hlen, hadr, hcell⟩ := h.op
  have hix := ints_index (c := c) elI szI hadr
  clear hadr h
  obtain ⟨wb, hwb⟩ : ∃ wb, wb = w.alloc (.cells #[.slice ao l.length c] 30) := ⟨_, rfl⟩
  have hE0 := (Ext.refl w).alloc (.cells #[.slice ao l.length c] 30)
  have hb := box_cell w (.slice ao l.length c) 30
  rw [← hwb] at hE0 hb
  have hE := Ext.refl wb
  have Hwb := Lib.hid hwb
  have hA := negF_bd Hgr.out x
  have h3 := isGrp_len Hgr.out
  clear hwb
  go_enter Try.func168, Try.ntmps168
  go_wp2_with fail
  rw [← Hwb.out]
  go_loopw [1, 5, 6, 12] (fun xv sv uv i wr => ∃ k x' s u : Nat, k ≤ l.length ∧ x' ≤ x ∧ s + u * negF (l.drop k) x' = negF l x ∧ (u : Int) = prodL (l.take k) ∧ xv = .int .i64 x' ∧ sv = .int .i64 s ∧ uv = .int .i64 u ∧ i = .int .i64 k ∧ Ext wb wr) (fun _ _ _ i _ => l.length - (intOf i).toNat)
  case atStart => exact ⟨0, x, 0, 1, by omega, by omega, by simp, by simp [prodL], rfl, rfl, rfl, rfl, hE⟩
  case round =>
    clear hE
    obtain ⟨k, x', s, u, hk, hx', hs, hu, rfl, rfl, rfl, rfl, hE⟩ := hrel
    have hbx := hb wr hE
    have hsb := add_inv hs hA
    obtain ⟨hu1, hu2⟩ := prodL_bd3 k l hk (by omega) (fun j hj => isGrp_nth Hgr.out (by omega))
    rw [← hu] at hu1 hu2
    have Hs := Lib.hid hs
    have Hu := Lib.hid hu
    clear hs hu hA
    by_cases hlt : k < l.length
    · have hck := hcell k _ hlt (hE0.trans hE)
      obtain ⟨hq1, hq2⟩ := isGrp_nth Hgr.out hlt
      obtain ⟨q, hq⟩ := Int.eq_ofNat_of_zero_le (show 0 ≤ nth l k by omega)
      have Hst := Lib.hid (negF_step hlt hq x')
      have Hu2 : Hid (nth l k * prodL (l.take k) = prodL (l.take (k + 1))) := Lib.hid (by rw [prodL_take l k hlt, Int.mul_comm])
      rw [hq] at hq1 hq2
      have Hq := Lib.hid hq
      have hd : (q - x' % q) % q < 24 := Nat.lt_of_lt_of_le (Nat.mod_lt _ (by omega)) (by omega)
      have hm1 : ((q - x' % q) % q) * u ≤ 24 * 13824 := Nat.mul_le_mul (by omega) (by omega)
      have hm2 : u * q ≤ 13824 * 24 := Nat.mul_le_mul (by omega) (by omega)
      have h1 := Nat.mod_lt x' (show 0 < q by omega)
      have c1 : (q : Int) - (x' : Int) % (q : Int) = ((q - x' % q : Nat) : Int) := by rw [← Int.natCast_emod]; omega
      have c2 : (((q : Int) - (x' : Int) % (q : Int)) % (q : Int)) * (u : Int) = ((((q - x' % q) % q) * u : Nat) : Int) := by rw [c1, Int.natCast_mul, Int.natCast_emod]
      have c3 : ((u * q : Nat) : Int) = (u : Int) * (q : Int) := Int.natCast_mul _ _
      have b1 : (x' : Int) % (q : Int) < 24 := by have := Int.emod_lt_of_pos (x' : Int) (show (0:Int) < q by omega); omega
      have b3 : 0 ≤ (x' : Int) % (q : Int) := Int.emod_nonneg _ (by omega)
      have b2 : 0 ≤ (q : Int) - (x' : Int) % (q : Int) := by have := Int.emod_lt_of_pos (x' : Int) (show (0:Int) < q by omega); omega
      have b5 : (((q : Int) - (x' : Int) % (q : Int)) % (q : Int)) * (u : Int) ≤ 331776 := by rw [c2]; omega
      have b6 : 0 ≤ (((q : Int) - (x' : Int) % (q : Int)) % (q : Int)) * (u : Int) := by rw [c2]; omega
      have b7 : (u : Int) * (q : Int) ≤ 331776 := by rw [← c3]; omega
      have b8 : 0 ≤ (u : Int) * (q : Int) := by rw [← c3]; omega
      have Hm1 := Lib.hid hm1
      clear c1 c2 c3 hd hm1 hm2 h1
      go_wp2_with fail
      skip
      go_roundw
      case rel =>
        refine ⟨k + 1, x' / q, s + ((q - x' % q) % q) * u, u * q, by omega, Nat.le_trans (Nat.div_le_self _ _) hx', ?_, ?_, ?_, ?_, ?_, by go_num, hE⟩
        · apply add_next
          rw [← Hst.out]; exact Hs.out
        · rw [← Hu2.out, ← Hu.out, Hq.out]; push_cast; rw [Int.mul_comm]
        · exact div_val (Nat.le_trans hx' (Nat.le_of_lt hx))
        · first | exact neg_val hsb (by omega) Hm1.out | (rw [show (-((x' : Int) % (q : Int))) % (q : Int) = ((q : Int) - (x' : Int) % (q : Int)) % (q : Int) from by simp]; exact neg_val hsb (by omega) Hm1.out)
        · exact mul_val u q
      case measure => (simp [intOf]; omega)
    · have hkl : k = l.length := by omega
      subst hkl
      go_wp2_with fail
      go_ret
      exact ⟨ret_int (by have := Hs.out; rw [List.drop_length] at this; simp [negF] at this; omega), hE0.trans hE⟩
--%call l2Negate 164 ext l2Negate_any _ _ _ _ ({0}) ({1}) ({2})
theorem l2Negate_any (v : Value) (l : List Int) (x : Nat) (w : World) (h : Ints w v l) (Hgr : Hid (isGrp l = true)) (hx : x < 16777216) :
    Calls Try.prog 164 #[.agg #[v], .int .i64 x] w fun e w' => e = .returned (.int .i64 (negF l x)) ∧ Ext w w' := by
  obtain ⟨ao, c, adr, rfl, hlen, hadr, hcell⟩ := h.op
  have hix := ints_index (c := c) elI szI hadr
  clear hadr h
  obtain ⟨wb, hwb⟩ : ∃ wb, wb = w.alloc (.cells #[.slice ao l.length c] 30) := ⟨_, rfl⟩
  have hE0 := (Ext.refl w).alloc (.cells #[.slice ao l.length c] 30)
  have hb := box_cell w (.slice ao l.length c) 30
  rw [← hwb] at hE0 hb
  have hE := Ext.refl wb
  have Hwb := Lib.hid hwb
  have hA := negF_bd Hgr.out x
  have h3 := isGrp_len Hgr.out
  clear hwb
  go_enter Try.func164, Try.ntmps164
  go_wp2_with fail
  rw [← Hwb.out]
  go_loopw [1, 5, 6, 7] (fun xv sv uv i wr => ∃ k x' s u : Nat, k ≤ l.length ∧ x' ≤ x ∧ s + u * negF (l.drop k) x' = negF l x ∧ (u : Int) = prodL (l.take k) ∧ xv = .int .i64 x' ∧ sv = .int .i64 s ∧ uv = .int .i64 u ∧ i = .int .i64 k ∧ Ext wb wr) (fun _ _ _ i _ => l.length - (intOf i).toNat)
  case atStart => exact ⟨0, x, 0, 1, by omega, by omega, by simp, by simp [prodL], rfl, rfl, rfl, rfl, hE⟩
  case round =>
    clear hE
    obtain ⟨k, x', s, u, hk, hx', hs, hu, rfl, rfl, rfl, rfl, hE⟩ := hrel
    have hbx := hb wr hE
    have hsb := add_inv hs hA
    obtain ⟨hu1, hu2⟩ := prodL_bd3 k l hk (by omega) (fun j hj => isGrp_nth Hgr.out (by omega))
    rw [← hu] at hu1 hu2
    have Hs := Lib.hid hs
    have Hu := Lib.hid hu
    clear hs hu hA
    by_cases hlt : k < l.length
    · have hck := hcell k _ hlt (hE0.trans hE)
      obtain ⟨hq1, hq2⟩ := isGrp_nth Hgr.out hlt
      obtain ⟨q, hq⟩ := Int.eq_ofNat_of_zero_le (show 0 ≤ nth l k by omega)
      have Hst := Lib.hid (negF_step hlt hq x')
      have Hu2 : Hid (nth l k * prodL (l.take k) = prodL (l.take (k + 1))) := Lib.hid (by rw [prodL_take l k hlt, Int.mul_comm])
      rw [hq] at hq1 hq2
      have Hq := Lib.hid hq
      have hd : (q - x' % q) % q < 24 := Nat.lt_of_lt_of_le (Nat.mod_lt _ (by omega)) (by omega)
      have hm1 : ((q - x' % q) % q) * u ≤ 24 * 13824 := Nat.mul_le_mul (by omega) (by omega)
      have hm2 : u * q ≤ 13824 * 24 := Nat.mul_le_mul (by omega) (by omega)
      have h1 := Nat.mod_lt x' (show 0 < q by omega)
      have c1 : (q : Int) - (x' : Int) % (q : Int) = ((q - x' % q : Nat) : Int) := by rw [← Int.natCast_emod]; omega
      have c2 : (((q : Int) - (x' : Int) % (q : Int)) % (q : Int)) * (u : Int) = ((((q - x' % q) % q) * u : Nat) : Int) := by rw [c1, Int.natCast_mul, Int.natCast_emod]
      have c3 : ((u * q : Nat) : Int) = (u : Int) * (q : Int) := Int.natCast_mul _ _
      have b1 : (x' : Int) % (q : Int) < 24 := by have := Int.emod_lt_of_pos (x' : Int) (show (0:Int) < q by omega); omega
      have b3 : 0 ≤ (x' : Int) % (q : Int) := Int.emod_nonneg _ (by omega)
      have b2 : 0 ≤ (q : Int) - (x' : Int) % (q : Int) := by have := Int.emod_lt_of_pos (x' : Int) (show (0:Int) < q by omega); omega
      have b5 : (((q : Int) - (x' : Int) % (q : Int)) % (q : Int)) * (u : Int) ≤ 331776 := by rw [c2]; omega
      have b6 : 0 ≤ (((q : Int) - (x' : Int) % (q : Int)) % (q : Int)) * (u : Int) := by rw [c2]; omega
      have b7 : (u : Int) * (q : Int) ≤ 331776 := by rw [← c3]; omega
      have b8 : 0 ≤ (u : Int) * (q : Int) := by rw [← c3]; omega
      have Hm1 := Lib.hid hm1
      clear c1 c2 c3 hd hm1 hm2 h1
      go_wp2_with fail
      skip
      go_roundw
      case rel =>
        refine ⟨k + 1, x' / q, s + ((q - x' % q) % q) * u, u * q, by omega, Nat.le_trans (Nat.div_le_self _ _) hx', ?_, ?_, ?_, ?_, ?_, by go_num, hE⟩
        · apply add_next
          rw [← Hst.out]; exact Hs.out
        · rw [← Hu2.out, ← Hu.out, Hq.out]; push_cast; rw [Int.mul_comm]
        · exact div_val (Nat.le_trans hx' (Nat.le_of_lt hx))
        · first | exact neg_val hsb (by omega) Hm1.out | (rw [show (-((x' : Int) % (q : Int))) % (q : Int) = ((q : Int) - (x' : Int) % (q : Int)) % (q : Int) from by simp]; exact neg_val hsb (by omega) Hm1.out)
        · exact mul_val u q
      case measure => (simp [intOf]; omega)
    · have hkl : k = l.length := by omega
      subst hkl
      go_wp2_with fail
      go_ret
      exact ⟨ret_int (by have := Hs.out; rw [List.drop_length] at this; simp [negF] at this; omega), hE0.trans hE⟩

--%call opposite 149 ext opposite_any _ _ _ _ ({0}) ({1}) ({2})
theorem opposite_any (v : Value) (l : List Int) (a : Nat) (w : World) (h : Ints w v l) (Hgr : Hid (isGrp l = true)) (ha : a < 2 ^ 24) :
    Calls Try.prog 149 #[.agg #[v], .int .i64 a] w fun e w' => e = .returned (.int .i64 (oppF l a)) ∧ Ext w w' := by
  obtain ⟨wb, hwb⟩ : ∃ wb, wb = w.alloc (.cells #[v] 30) := ⟨_, rfl⟩
  have hE0 := (Ext.refl w).alloc (.cells #[v] 30)
  have hb := box_cell w v 30
  rw [← hwb] at hE0 hb
  have hg : ∀ W, Ext wb W → Ints W v l := fun W hW => h.ext (hE0.trans hW)
  have hE := Ext.refl wb
  have Hsz : Hid (w.heap.size + 1 = wb.heap.size) := Lib.hid (by rw [hwb]; simp [go_sem])
  have Hwb := Lib.hid hwb
  clear hwb h
  go_enter Try.func149, Try.ntmps149
  go_wp2_with fail
  rw [← Hwb.out]
  go_wp2_with (first | (go_at_call 105; refine (members_any _ (ha) _).mono ?_; rintro e w1 ⟨v1, rfl, hL, hE1⟩; obtain ⟨aoL, cL, adrL, rfl, hadrL, hcellL⟩ := hL.ints.nats; have hixL := ints_index (c := cL) elI szI hadrL; clear hadrL))
  have hb1 : ∀ W, Ext w1 W → W.cell? ⟨w.heap.size, 0, none⟩ = some v := fun W hW => hb W (hE1.trans hW)
  have hg1 : ∀ W, Ext w1 W → Ints W v l := fun W hW => hg W (hE1.trans hW)
  replace hE := Ext.refl w1
  clear hb hg hL
  have hall : ∀ y ∈ elems a, y < 24 := fun y hy => elems_lt hy
  have hlen := elems_len a
  have Hd := Lib.hid (oppL_all l a)
  generalize elems a = L at hcellL hixL hall hlen Hd ⊢
  go_loopw [5, 11] (fun ov i wr => ∃ k : Nat, k ≤ L.length ∧ i = .int .i64 k ∧ ov = .int .i64 ((oppL l (L.take k) : Nat) : Int) ∧ Ext w1 wr) (fun _ i _ => L.length - (intOf i).toNat)
  case atStart => exact ⟨0, by omega, rfl, by simp [oppL, bset], hE⟩
  case round =>
    clear hE
    obtain ⟨k, hk, rfl, rfl, hE⟩ := hrel
    by_cases hlt : k < L.length
    · have hck := hcellL k _ hlt hE
      have hbx := hb1 _ hE
      have hby := hall _ (nthN_mem hlt)
      have Ht := Lib.hid (oppL_snoc l (L.take k) (nthN L k))
      have Ht2 := Lib.hid (take_nthN L k hlt)
      have hz := negF_bd Hgr.out (nthN L k)
      have hs1 := ishl_one (n := negF l (nthN L k)) (by omega)
      have hs2 := ior_pw (oppL_bd Hgr.out (L.take k)) hz
      go_wp2_with (first | (go_at_call 168; refine (negate_any _ _ _ _ (hg1 _ hE) (Hgr) ((by omega))).mono ?_; rintro e w' ⟨rfl, hE'⟩; replace hE := hE.trans hE'; clear hE'))
      go_roundw
      case rel => exact ⟨k + 1, by omega, by go_num, by rw [Ht2.out, Ht.out], hE⟩
      case measure => (simp [intOf]; omega)
    · have hkl : k = L.length := by omega
      subst hkl
      go_wp2_with fail
      go_ret
      exact ⟨ret_int (by rw [List.take_length, Hd.out]), hE0.trans (hE1.trans hE)⟩
--%call l3Negate 136 ext l3Negate_any _ _ _ _ ({0}) ({1}) ({2})
theorem l3Negate_any (v : Value) (l : List Int) (a : Nat) (w : World) (h : Ints w v l) (Hgr : Hid (isGrp l = true)) (ha : a < 2 ^ 24) :
    Calls Try.prog 136 #[.agg #[v], .int .i64 a] w fun e w' => e = .returned (.int .i64 (oppF l a)) ∧ Ext w w' := by
  obtain ⟨wb, hwb⟩ : ∃ wb, wb = w.alloc (.cells #[v] 30) := ⟨_, rfl⟩
  have hE0 := (Ext.refl w).alloc (.cells #[v] 30)
  have hb := box_cell w v 30
  rw [← hwb] at hE0 hb
  have hg : ∀ W, Ext wb W → Ints W v l := fun W hW => h.ext (hE0.trans hW)
  have hE := Ext.refl wb
  have Hsz : Hid (w.heap.size + 1 = wb.heap.size) := Lib.hid (by rw [hwb]; simp [go_sem])
  have Hwb := Lib.hid hwb
  clear hwb h
  go_enter Try.func136, Try.ntmps136
  go_wp2_with fail
  rw [← Hwb.out]
  go_wp2_with (first | (go_at_call 43; refine (l3List_any _ (ha) _).mono ?_; rintro e w1 ⟨v1, rfl, hL, hE1⟩; obtain ⟨aoL, cL, adrL, rfl, hadrL, hcellL⟩ := hL.ints.nats; have hixL := ints_index (c := cL) elI szI hadrL; clear hadrL))
  have hb1 : ∀ W, Ext w1 W → W.cell? ⟨w.heap.size, 0, none⟩ = some v := fun W hW => hb W (hE1.trans hW)
  have hg1 : ∀ W, Ext w1 W → Ints W v l := fun W hW => hg W (hE1.trans hW)
  replace hE := Ext.refl w1
  clear hb hg hL
  have hall : ∀ y ∈ elems a, y < 24 := fun y hy => elems_lt hy
  have hlen := elems_len a
  have Hd := Lib.hid (oppL_all l a)
  generalize elems a = L at hcellL hixL hall hlen Hd ⊢
  go_loopw [5, 7] (fun ov i wr => ∃ k : Nat, k ≤ L.length ∧ i = .int .i64 k ∧ ov = .int .i64 ((oppL l (L.take k) : Nat) : Int) ∧ Ext w1 wr) (fun _ i _ => L.length - (intOf i).toNat)
  case atStart => exact ⟨0, by omega, rfl, by simp [oppL, bset], hE⟩
  case round =>
    clear hE
    obtain ⟨k, hk, rfl, rfl, hE⟩ := hrel
    by_cases hlt : k < L.length
    · have hck := fun U => hcellL k _ hlt (lat_ext w1 U)
      have hbx := fun U => hb1 _ (lat_ext w1 U)
      have hby := hall _ (nthN_mem hlt)
      have Ht := Lib.hid (oppL_snoc l (L.take k) (nthN L k))
      have Ht2 := Lib.hid (take_nthN L k hlt)
      have hz := negF_bd Hgr.out (nthN L k)
      have hs1 := ishl_one (n := negF l (nthN L k)) (by omega)
      have hs2 := ior_pw (oppL_bd Hgr.out (L.take k)) hz
      go_wp2_with fail
      (refine wp_region_lat (w1) (by kernel_rfl) (by kernel_rfl) hE ?_); (repeat (go_big_quiet_step (first | (go_at_call 164; exact Calls.lat (l2Negate_any _ _ _ _ (hg1 _ (lat_ext w1 _)) (Hgr) ((by omega))))))); (refine wpQuiet_nil ?_); (intro W hE'); (replace hE := lat_of hE'); (clear hE')
      go_wp2_with fail
      go_roundw
      case rel => exact ⟨k + 1, by omega, by go_num, by rw [Ht2.out, Ht.out], hE⟩
      case measure => (simp [intOf]; omega)
    · have hkl : k = L.length := by omega
      subst hkl
      go_wp2_with fail
      go_ret
      exact ⟨ret_int (by rw [List.take_length, Hd.out]), hE0.trans (hE1.trans hE)⟩

--%call difference 93 ext difference_any _ _ _ _ _ ({0}) ({1}) ({2}) ({3})
theorem difference_any (v : Value) (l : List Int) (a b : Nat) (w : World) (h : Ints w v l) (Hgr : Hid (isGrp l = true)) (ha : a < 2 ^ 24) (hb' : b < 2 ^ 24) :
    Calls Try.prog 93 #[.agg #[v], .int .i64 a, .int .i64 b] w fun e w' => e = .returned (.int .i64 (sumF l a (oppF l b))) ∧ Ext w w' := by
  obtain ⟨wb, hwb⟩ : ∃ wb, wb = w.alloc (.cells #[v] 30) := ⟨_, rfl⟩
  have hE0 := (Ext.refl w).alloc (.cells #[v] 30)
  have hb := box_cell w v 30
  rw [← hwb] at hE0 hb
  have hg : ∀ W, Ext wb W → Ints W v l := fun W hW => h.ext (hE0.trans hW)
  have hE := Ext.refl wb
  have Hsz : Hid (w.heap.size + 1 = wb.heap.size) := Lib.hid (by rw [hwb]; simp [go_sem])
  have Hwb := Lib.hid hwb
  clear hwb h
  have hbx := fun U => hb _ (lat_ext wb U)
  have ho := oppF_bd Hgr.out b
  go_enter Try.func93, Try.ntmps93
  go_wp2_with fail
  rw [← Hwb.out]
  (refine wp_region_lat (wb) (by kernel_rfl) (by kernel_rfl) hE ?_); (repeat (go_big_quiet_step (first | (go_at_call 149; exact Calls.lat (opposite_any _ _ _ _ (hg _ (lat_ext wb _)) (Hgr) (hb'))) | (go_at_call 82; exact Calls.lat (sum_any _ _ _ _ _ (hg _ (lat_ext wb _)) (Hgr) (ha) (ho)))))); (refine wpQuiet_nil ?_); (intro W hE'); (replace hE := lat_of hE'); (clear hE')
  go_wp2_with fail
  go_ret
  exact ⟨rfl, hE0.trans hE⟩
end Go.Zz

/- Generated subgroups, hulls, covers. -/
namespace Go.Zz
open Go.RowKit Go.Proofs
set_option maxHeartbeats 400000

--%call generated 150 ext generated_any _ _ _ _ ({0}) ({1}) ({2})
theorem generated_any (v : Value) (l : List Int) (a : Nat) (w : World) (h : Ints w v l) (Hgr : Hid (isGrp l = true)) (ha : a < 2 ^ 24) :
    Calls Try.prog 150 #[.agg #[v], .int .i64 a] w fun e w' => e = .returned (.int .i64 (genF l a)) ∧ Ext w w' := by
  obtain ⟨wb, hwb⟩ : ∃ wb, wb = w.alloc (.cells #[v] 30) := ⟨_, rfl⟩
  have hE0 := (Ext.refl w).alloc (.cells #[v] 30)
  have hb := box_cell w v 30
  rw [← hwb] at hE0 hb
  have hg : ∀ W, Ext wb W → Ints W v l := fun W hW => h.ext (hE0.trans hW)
  have hE := Ext.refl wb
  have Hsz : Hid (w.heap.size + 1 = wb.heap.size) := Lib.hid (by rw [hwb]; simp [go_sem])
  have Hwb := Lib.hid hwb
  clear hwb h
  have hgb := genF_bd Hgr.out a
  have ho := oppF_bd Hgr.out a
  have Hone := Lib.hid (genF_one l a)
  go_enter Try.func150, Try.ntmps150
  go_wp2_with fail
  rw [← Hwb.out]
  go_loopw [5] (fun hv wr => ∃ h : Nat, Sub 1 h ∧ Sub h (genF l a) ∧ hv = .int .i64 h ∧ Ext wb wr) (fun hv _ => 16777216 - (intOf hv).toNat)
  case atStart => exact ⟨1, Sub.refl 1, Hone.out, rfl, hE⟩
  case round =>
    clear hE
    obtain ⟨h, h1, h2, rfl, hE⟩ := hrel
    have hbx := fun U => hb _ (lat_ext wb U)
    have hh := sub_bd hgb h2
    have hs1 := sumF_bd Hgr.out h a
    have hs2 := sumF_bd Hgr.out h (oppF l a)
    have i1 := ior_nat (a := h) (b := sumF l h a) (by omega) (by omega)
    have ho1 : h ||| sumF l h a < 2 ^ 24 := Nat.or_lt_two_pow hh hs1
    have i2 := ior_nat (a := h ||| sumF l h a) (b := sumF l h (oppF l a)) (by omega) (by omega)
    have hN2 := grow2_sub Hgr.out h2
    have hN1 := grow2_le l a h
    have hend := grow2_end h1 h2
    have hNb := sub_bd hgb hN2
    rw [show h ||| sumF l h a ||| sumF l h (oppF l a) = grow2 l a h from rfl] at i2
    generalize grow2 l a h = N at i2 hN2 hN1 hend hNb
    have H1 := Lib.hid h1
    have H2 := Lib.hid h2
    have HN1 := Lib.hid hN1
    have HN2 := Lib.hid hN2
    have He := Lib.hid hend
    clear h1 h2 hN1 hN2 hend
    by_cases hq : N = h
    · have hq' : ((N : Int) == (h : Int)) = true := by simp [hq]
      have Hq := Lib.hid hq
      clear hq
      go_wp2_with fail
      (refine wp_region_lat (wb) (by kernel_rfl) (by kernel_rfl) hE ?_); (repeat (go_big_quiet_step (first | (go_at_call 82; exact Calls.lat (sum_any _ _ _ _ _ (hg _ (lat_ext wb _)) (Hgr) (hh) (ha))) | (go_at_call 82; exact Calls.lat (sum_any _ _ _ _ _ (hg _ (lat_ext wb _)) (Hgr) (hh) (ho))) | (go_at_call 149; exact Calls.lat (opposite_any _ _ _ _ (hg _ (lat_ext wb _)) (Hgr) (ha)))))); (refine wpQuiet_nil ?_); (intro W hE'); (replace hE := lat_of hE'); (clear hE')
      go_wp2_with fail
      go_ret
      exact ⟨ret_int (by rw [← He.out Hq.out]), hE0.trans hE⟩
    · have hq' : ((N : Int) == (h : Int)) = false := by simp; omega
      have Hlt := Lib.hid (sub_lt hNb HN1.out (fun e => hq e.symm)).1
      clear hq
      go_wp2_with fail
      (refine wp_region_lat (wb) (by kernel_rfl) (by kernel_rfl) hE ?_); (repeat (go_big_quiet_step (first | (go_at_call 82; exact Calls.lat (sum_any _ _ _ _ _ (hg _ (lat_ext wb _)) (Hgr) (hh) (ha))) | (go_at_call 82; exact Calls.lat (sum_any _ _ _ _ _ (hg _ (lat_ext wb _)) (Hgr) (hh) (ho))) | (go_at_call 149; exact Calls.lat (opposite_any _ _ _ _ (hg _ (lat_ext wb _)) (Hgr) (ha)))))); (refine wpQuiet_nil ?_); (intro W hE'); (replace hE := lat_of hE'); (clear hE')
      go_wp2_with fail
      go_roundw
      case rel => exact ⟨N, H1.out.trans HN1.out, HN2.out, rfl, hE⟩
      case measure => (simp [intOf]; have := Hlt.out; omega)
--%call l5Closure 137 ext l5Closure_any _ _ _ _ ({0}) ({1}) ({2})
theorem l5Closure_any (v : Value) (l : List Int) (a : Nat) (w : World) (h : Ints w v l) (Hgr : Hid (isGrp l = true)) (ha : a < 2 ^ 24) :
    Calls Try.prog 137 #[.agg #[v], .int .i64 a] w fun e w' => e = .returned (.int .i64 (genF l a)) ∧ Ext w w' := by
  obtain ⟨wb, hwb⟩ : ∃ wb, wb = w.alloc (.cells #[v] 30) := ⟨_, rfl⟩
  have hE0 := (Ext.refl w).alloc (.cells #[v] 30)
  have hb := box_cell w v 30
  rw [← hwb] at hE0 hb
  have hg : ∀ W, Ext wb W → Ints W v l := fun W hW => h.ext (hE0.trans hW)
  have hE := Ext.refl wb
  have Hsz : Hid (w.heap.size + 1 = wb.heap.size) := Lib.hid (by rw [hwb]; simp [go_sem])
  have Hwb := Lib.hid hwb
  clear hwb h
  have hbx := hb wb hE
  have hgb := genF_bd Hgr.out a
  have Hone := Lib.hid (genF_one l a)
  have h1b : (1 : Nat) < 2 ^ 24 := by omega
  have hs1 := sumF_bd Hgr.out 1 a
  have i1 := ior_nat (a := 1) (b := sumF l 1 a) (by omega) (by omega)
  go_enter Try.func137, Try.ntmps137
  go_wp2_with fail
  rw [← Hwb.out]
  go_wp2_with (first | (go_at_call 67; refine (l4Sum_any _ _ _ _ _ (hg _ hE) (Hgr) (h1b) (ha)).mono ?_; rintro e w' ⟨rfl, hE'⟩; replace hE := hE.trans hE'; clear hE'))
  clear hbx hs1
  go_loopw [5, 6] (fun hv nv wr => ∃ h : Nat, Sub 1 h ∧ Sub h (genF l a) ∧ hv = .int .i64 h ∧ nv = .int .i64 (grow l a h : Nat) ∧ Ext wb wr) (fun hv _ _ => 16777216 - (intOf hv).toNat)
  case atStart => exact ⟨1, Sub.refl 1, Hone.out, rfl, by unfold grow; rw [← i1]; rfl, hE⟩
  case round =>
    clear hE i1
    obtain ⟨h, h1, h2, rfl, rfl, hE⟩ := hrel
    have hbx := hb _ hE
    have hh := sub_bd hgb h2
    have hN2 := grow_sub Hgr.out h2
    have hN1 : Sub h (grow l a h) := Sub.or_left _ _
    have hend := grow_end h1 h2
    have hNb := sub_bd hgb hN2
    generalize grow l a h = N at hN2 hN1 hend hNb ⊢
    have hs1 := sumF_bd Hgr.out N a
    have i1 := ior_nat (a := N) (b := sumF l N a) (by omega) (by omega)
    have Hi : Hid (N ||| sumF l N a = grow l a N) := Lib.hid rfl
    have H1 := Lib.hid h1
    have H2 := Lib.hid h2
    have HN1 := Lib.hid hN1
    have HN2 := Lib.hid hN2
    have He := Lib.hid hend
    clear h1 h2 hN1 hN2 hend
    by_cases hq : N = h
    · have hq' : ((N : Int) != (h : Int)) = false := by simp [hq]
      have Hq := Lib.hid hq
      clear hq
      go_wp2_with fail
      go_ret
      exact ⟨ret_int (by rw [← He.out Hq.out]), hE0.trans hE⟩
    · have hq' : ((N : Int) != (h : Int)) = true := by simp; omega
      have Hlt := Lib.hid (sub_lt hNb HN1.out (fun e => hq e.symm)).1
      clear hq
      go_wp2_with (first | (go_at_call 67; refine (l4Sum_any _ _ _ _ _ (hg _ hE) (Hgr) (hNb) (ha)).mono ?_; rintro e w' ⟨rfl, hE'⟩; replace hE := hE.trans hE'; clear hE'))
      go_roundw
      case rel => exact ⟨N, H1.out.trans HN1.out, HN2.out, rfl, by rw [Hi.out], hE⟩
      case measure => (simp [intOf]; have := Hlt.out; omega)

end Go.Zz
