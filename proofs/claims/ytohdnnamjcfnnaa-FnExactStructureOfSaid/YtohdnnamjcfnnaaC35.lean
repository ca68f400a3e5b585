/- Marks in kept counts. -/
import Derived.Test.YtohdnnamjcfnnaaC34
namespace Go.Zz
open Go.RowKit Go.Proofs
set_option maxHeartbeats 400000

theorem Blk.grown {w w' : World} {b : Nat} {T : TypeId} {cs : Array Value} {row : Option Nat} (h : Blk w b T cs) (hg : w.grownBy w' row) (hne : ∀ k, row = some k → k ≠ b) : Blk w' b T cs := by
  unfold Blk
  rw [hg.block b h.lt (by
    cases row with
    | none => simp
    | some k => simp; exact fun e => hne k rfl (by first | exact e | exact e.symm))]
  exact h
/-- the slices of a value of type Kept lie below a block -/
def Below2 (c : Value) (top : Nat) : Prop := ∀ v n u, c = .agg #[v, n, u] → ∀ k, (v.ownBlock = some k ∨ u.ownBlock = some k) → k < top
theorem OwnK2.below {w0 w : World} {c : Value} {l m : List Int} {n : Int} (h : OwnK2 w0 w c l n m) : Below2 c w.heap.size := by
  obtain ⟨v, u, rfl, hv, hu, -⟩ := h
  intro v' n' u' e k hk
  simp at e
  obtain ⟨rfl, rfl, rfl⟩ := e
  rcases hk with hk | hk
  · exact (hv.blk k hk).2
  · exact (hu.blk k hk).2
theorem OwnK2.kept {w0 w w' : World} {c : Value} {l m : List Int} {n : Int} {row : Option Nat} (h : OwnK2 w0 w c l n m) (hg : w.grownBy w' row) (hr : ∀ k, row = some k → k < w0.heap.size) : OwnK2 w0 w' c l n m := by
  obtain ⟨v, u, rfl, hv, hu, hd⟩ := h
  have key : ∀ {x : Value} {ll : List Int}, Own 3 w0 w x ll → Own 3 w0 w' x ll := fun {x ll} hx => hx.kept hg (by
    cases hq : x.ownBlock with
    | none => exact Or.inl rfl
    | some k => exact Or.inr fun e => by have := hr k e.symm; have := (hx.blk k hq).1; omega)
  exact ⟨v, u, rfl, key hv, key hu, hd⟩
theorem heldGroup_any (v : Value) (n : Nat) (k0 : Int) (w : World) (h : Ints w v (marks k0 n)) (h1 : 0 ≤ k0) (h2 : k0 ≤ 17592186044416) :
    Calls Try.prog 100 #[.agg #[v], .int .i64 k0] w fun e w' => e = .returned (.int .i64 (k0 + n)) ∧ Ext w w' := by
  have hE0 := (Ext.refl w).alloc (.cells #[v] 28)
  have hI := h.ext hE0
  have hpos : ¬ k0 + (n : Int) < 0 := by omega
  clear h
  go_enter Try.func100, Try.ntmps100
  go_wp2_with fail
  refine (heldIntS_any _ _ _ _ hI h1 h2).mono ?_
  rintro e w' ⟨rfl, rfl⟩
  go_wp2_with fail
  go_ret
  exact ⟨rfl, hE0⟩
theorem markKept_any (c : Value) (l m : List Int) (n k0 : Int) (w0 w : World) (top : Nat) (h : OwnK2 w0 w c l n m) (hT : Below2 c top) (hsz : top ≤ w.heap.size) (h1 : 0 ≤ k0) (h2 : k0 ≤ 1048576) (h3 : l.length ≤ 1048576) :
    Calls Try.prog 20 #[c, .int .i64 k0] w fun e w' => e = .returned (.int .i64 (k0 + l.length + m.length)) ∧ OwnK2 w0 w' c (marks k0 l.length) n (marks (k0 + l.length) m.length) ∧
      (∀ b, Ext b w → b.heap.size ≤ w0.heap.size → Ext b w') ∧ (∀ wz v' l', top ≤ wz.heap.size → Own 3 wz w v' l' → Own 3 wz w' v' l') ∧ (∀ b T cs, top ≤ b → Blk w b T cs → Blk w' b T cs) := by
  obtain ⟨v, u, rfl, hv, hu, hd⟩ := h
  have bv : ∀ k, v.ownBlock = some k → w0.heap.size ≤ k ∧ k < top := fun k hk => ⟨(hv.blk k hk).1, hT _ _ _ rfl k (Or.inl hk)⟩
  have bu : ∀ k, u.ownBlock = some k → w0.heap.size ≤ k ∧ k < top := fun k hk => ⟨(hu.blk k hk).1, hT _ _ _ rfl k (Or.inr hk)⟩
  have hv1 := hv.alloc (.cells #[v, .int .i64 n, u] 30)
  have hu1 := hu.alloc (.cells #[v, .int .i64 n, u] 30)
  have B0 := Blk.new w 30 #[v, .int .i64 n, u]
  have hg0 := World.grownBy_alloc w (.cells #[v, .int .i64 n, u] 30) none
  have hlen := hv.2
  go_enter Try.func20, Try.ntmps20
  go_wp2_with fail
  refine (markGroup_any _ _ _ _ _ hv1 h1 (by omega)).mono ?_
  rintro e w1 ⟨rfl, hv2, hG1⟩
  have hu2 := hu1.kept hG1 (by
    rcases hd with hd | hd
    · cases hq : u.ownBlock with
      | none => exact Or.inl rfl
      | some k => exact Or.inr (by rw [hd]; simp)
    · cases hq : u.ownBlock with
      | none => exact Or.inl rfl
      | some k => exact Or.inr (by rw [← hq]; exact fun e => hd e.symm))
  have B1 := B0.grown hG1 (fun k hk => by have := (bv k hk).2; omega)
  have z2 := B1.cell (i := 2) (v := u) rfl
  go_wp2_with fail
  refine (markIntS_any _ _ _ _ _ hu2 (by omega) (by omega)).mono ?_
  rintro e w2 ⟨rfl, hu3, hG2⟩
  have hv3 := hv2.kept hG2 hd
  go_wp2_with fail
  go_ret
  refine ⟨rfl, ⟨v, u, rfl, hv3, hu3, hd⟩, fun b hb hbs => ?_, fun wz v' l' hz hO => ?_, fun b T cs hb hB => ?_⟩
  · exact ((hb.alloc (.cells #[v, .int .i64 n, u] 30)).grown hG1 (fun k hk => Nat.le_trans hbs (bv k hk).1)).grown hG2 (fun k hk => Nat.le_trans hbs (bu k hk).1)
  · have bz := hO.blk
    refine ((hO.alloc (.cells #[v, .int .i64 n, u] 30)).kept hG1 ?_).kept hG2 ?_
    · cases hq : v'.ownBlock with
      | none => exact Or.inl rfl
      | some k => exact Or.inr fun e => by have := (bv k e.symm).2; have := (bz k hq).1; omega
    · cases hq : v'.ownBlock with
      | none => exact Or.inl rfl
      | some k => exact Or.inr fun e => by have := (bu k e.symm).2; have := (bz k hq).1; omega
  · exact ((hB.alloc (.cells #[v, .int .i64 n, u] 30)).grown hG1 (fun k hk => by have := (bv k hk).2; omega)).grown hG2 (fun k hk => by have := (bu k hk).2; omega)
theorem heldKept_any (c : Value) (a b : Nat) (n k0 : Int) (w : World) (h : IsK w c (marks k0 a) n (marks (k0 + a) b)) (h1 : 0 ≤ k0) (h2 : k0 ≤ 1048576) (h3 : a ≤ 1048576) (h4 : b ≤ 17592186044416) :
    Calls Try.prog 21 #[c, .int .i64 k0] w fun e w' => e = .returned (.int .i64 (k0 + a + b)) ∧ Ext w w' := by
  obtain ⟨v, u, rfl, hv, hu⟩ := h
  have hE0 := (Ext.refl w).alloc (.cells #[v, .int .i64 n, u] 30)
  have B0 := Blk.new w 30 #[v, .int .i64 n, u]
  have hp1 : ¬ k0 + (a : Int) < 0 := by omega
  have hp2 : ¬ k0 + (a : Int) + (b : Int) < 0 := by omega
  go_enter Try.func21, Try.ntmps21
  go_wp2_with fail
  refine (heldGroup_any _ _ _ _ (hv.ext hE0) h1 (by omega)).mono ?_
  rintro e w1 ⟨rfl, hE1⟩
  have z2 := (B0.ext hE1).cell (i := 2) (v := u) rfl
  go_wp2_with fail
  refine (heldIntS_any _ _ _ _ (hu.ext (hE0.trans hE1)) (by omega) (by omega)).mono ?_
  rintro e w2 ⟨rfl, rfl⟩
  go_wp2_with fail
  go_ret
  exact ⟨rfl, hE0.trans hE1⟩
end Go.Zz
