/- append(s, xs...) and append(s, y) to a slice that is empty or owned behind a world: as a run, as a step of a region that draws, with what stays. -/
import Derived.Test.YtgmbjfjihhdenaaGr6
import Derived.Test.YtgmbjfjihhdenaaGr9
import Derived.Deep.DeepCutAuto
import Derived.Deep.RegionHeld3
import Derived.WalkSpells
namespace Go.Zz
open Go.RowKit Go.Proofs
set_option maxHeartbeats 1000000

/-- what stays behind an append: blocks of other types -/
def Oth (TI : TypeId) (w w' : World) : Prop := ∀ b T cs, T ≠ TI → Blk w b T cs → Blk w' b T cs
theorem Oth.refl (TI : TypeId) (w : World) : Oth TI w w := fun _ _ _ _ h => h
theorem Oth.trans {TI : TypeId} {a b c : World} (h : Oth TI a b) (k : Oth TI b c) : Oth TI a c := fun b T cs hT hB => k b T cs hT (h b T cs hT hB)
theorem Ext.oth {w w' : World} (h : Ext w w') (TI : TypeId) : Oth TI w w' := fun _ _ _ _ hB => hB.ext h
theorem own_not {TI T : TypeId} {w0 w : World} {v : Value} {l : List Int} (h : Own TI w0 w v l) {g : Nat} {cs : Array Value} (hB : Blk w g T cs) (hT : T ≠ TI) : v.ownBlock ≠ some g := fun e => by
  obtain ⟨h1, h2⟩ := h
  rcases h1.2 with ⟨rfl, _⟩ | ⟨g', cap, cur, rfl, _, hh, _⟩
  · cases e
  · simp [Value.ownBlock] at e
    subst e
    have hB' : w.heap[g']? = some (.cells cs T (0, 0)) := hB
    rw [hB'] at hh
    simp at hh
    exact hT hh.2
theorem oth_grown {TI : TypeId} {w0 w w' : World} {v : Value} {l : List Int} (h : Own TI w0 w v l) (hg : w.grownBy w' v.ownBlock) : Oth TI w w' := fun b T cs hT hB =>
  hB.grown hg fun k hk e => own_not h hB hT (by rw [hk, e])
theorem run_appendsE {P : Program} {T TI : TypeId} (hT : IntSl P T TI) (ty : TypeId) (wb w0 w : World) (v u : Value) (l m : List Int) (hO : OwnE TI wb w0 w v l) (hI : Ints w u m) (hE : Ext w0 w) (hn : l.length + m.length ≤ 17592186044416) :
    ∃ v' w', (Builtin.append_ #[T, T] ty #[v, u]).run P w = .ok v' w' ∧ OwnE TI wb w0 w' v' (l ++ m) ∧ Ext w0 w' ∧ Oth TI w w' := by
  obtain ⟨i, hi, hz, hs1, hby⟩ := hT.info
  obtain ⟨ao, c, rfl, hmc, hml, hc⟩ := hI
  cases ao with
  | none =>
    have hm : m = [] := by
      cases m with
      | nil => rfl
      | cons y m => obtain ⟨_, h, _⟩ := hc 0 (by simp); cases h
    subst hm
    refine ⟨v, w, ?_, by simpa using hO, hE, Oth.refl _ _⟩
    rcases hO with ⟨g, -, rfl, rfl, hB⟩ | hO
    · simp [Builtin.append_, run_underlying hT.und, sizeOf, typeInfo, hi, Builtin.lenOf, Builtin.firstCells, storeCells, Result.andThen]
    · rcases hO.1.2 with ⟨rfl, _⟩ | ⟨g, cap, cur, rfl, _, _, hnc, _⟩
      · simp [Builtin.append_, run_underlying hT.und, sizeOf, typeInfo, hi, Builtin.lenOf, Builtin.firstCells]
      · simp [Builtin.append_, run_underlying hT.und, sizeOf, typeInfo, hi, Builtin.lenOf, Builtin.firstCells, hnc, storeCells, Result.andThen]
  | some ad =>
    have hnews : ∀ j u, (m.map (Value.int .i64))[j]? = some u → w.cell? (ad.add j) = some u := by
      intro j u hu
      have hj : j < m.length := by have := (List.getElem?_eq_some_iff.1 hu).1; simpa using this
      obtain ⟨a', ha', hc'⟩ := hc j hj
      cases ha'
      rw [hc', ← hu, nth_get _ _ hj]; simp [hj]
    rcases hO with ⟨g, h0, rfl, rfl, hB⟩ | hO
    · by_cases hm : m = []
      · subst hm
        have hown : w.ownsRow wb.heap.size TI 1 (.slice (some ⟨g, 0, none⟩) 0 0) 0 [] := by
          have hB' : w.heap[g]? = some (.cells #[] TI (0, 0)) := hB
          exact ⟨by simp, Or.inr ⟨g, 0, #[], rfl, h0, hB', Nat.le_refl _, Nat.zero_le _, by simp, by simp⟩⟩
        refine ⟨_, w, ?_, Or.inl ⟨g, h0, rfl, rfl, hB⟩, hE, Oth.refl _ _⟩
        have hrun := run_append_owned_none (P := P) w wb.heap.size T ty TI i 1 hT.und hi (.slice (some ⟨g, 0, none⟩) 0 0) 0 [] hown
        rw [← hrun]; simp [Builtin.append_, run_underlying hT.und, sizeOf, typeInfo, hi, Builtin.lenOf, Builtin.firstCells, go_sem]
      · have hpos : 0 < m.length := Nat.pos_of_ne_zero (fun e => hm (List.eq_nil_of_length_eq_zero e))
        obtain ⟨v', w', hrun, r1, r2⟩ := run_append_arg_grows (P := P) (w := w) T ty TI i (.int .i64 0) 1 8 hT.und hi hz hs1 hby rfl (by omega) ⟨g, 0, none⟩ 0 0 [] (by simp) (by simp) ad m.length c (m.map (Value.int .i64)) (by simp) hnews (by omega) (by unfold maxLen; omega) (by omega)
        have hO' : Own TI w w' v' m := ⟨by simpa using r1, hml⟩
        have hE2 : Ext w w' := (Ext.refl w).grown r2 (by simp)
        exact ⟨v', w', hrun, Or.inr (by simpa using hO'.mono hE), hE.trans hE2, hE2.oth TI⟩
    · obtain ⟨v', w', hrun, r1, r2, -⟩ := run_append_own (P := P) w w0.heap.size T ty TI i (.int .i64 0) 1 8 hT.und hi hz hs1 hby rfl (by omega) v l.length _ hO.1 ad m.length c (m.map (Value.int .i64)) (by simp) hnews (ints_oneCell _ _) (by unfold maxLen; omega) (by omega) hE.size
      exact ⟨v', w', hrun, Or.inr ⟨by simpa using r1, by simp; omega⟩, hE.grown r2 fun k hk => (hO.blk k hk).1, oth_grown hO r2⟩
/-- as a step of a region that draws its order -/
theorem step_appendsE {P : Program} {ops : Array Oper} {o : Oper} {a : Act} {w : World} {K : Act → World → Prop} {Q : Exit → Act → World → Prop} {E : Prop} {T TI : TypeId} (hT : IntSl P T TI)
    (hg : o.guard = none) (s x : Operand) (hop : o.op = Op.call { callee := Callee.builtin Builtin.append, args := #[s, x], argTypes := #[T, T] })
    (wb w0 : World) (v u : Value) (l m : List Int) (hO : OwnE TI wb w0 w v l) (hI : Ints w u m) (hE : Ext w0 w) (hn : l.length + m.length ≤ 17592186044416) (hs : a.eval s = v) (hx : a.eval x = u)
    (hK : ∀ v' w', OwnE TI wb w0 w' v' (l ++ m) → Ext w0 w' → Oth TI w w' → K (a.put o.dst v') w') :
    if Region.wanted o (yielded ops a.tmps) = true then Oper.wp P o a w K Q else E := by
  have hw : Region.wanted o (yielded ops a.tmps) = true := by simp [Region.wanted, hg]
  rw [if_pos hw]
  obtain ⟨v', w', hrun, h1, h2, h3⟩ := run_appendsE hT o.type wb w0 w v u l m hO hI hE hn
  unfold Oper.wp
  simp [execOp, hop, resolve, invoke, builtin, hs, hx, hrun, Result.andThen]
  exact hK v' w' h1 h2 h3
section
variable {P : Program} {ops : Array Oper} {rest : List Oper} {o : Oper} {a : Act} {Q : Exit → Act → World → Prop} {T TI : TypeId}
theorem wp_appendsE (hT : IntSl P T TI) (hg : o.guard = none) (s x : Operand) (hop : o.op = Op.call { callee := Callee.builtin Builtin.append, args := #[s, x], argTypes := #[T, T] })
    (wb w0 w : World) (v u : Value) (l m : List Int) (hO : OwnE TI wb w0 w v l) (hI : Ints w u m) (hE : Ext w0 w) (hn : l.length + m.length ≤ 17592186044416) (hs : a.eval s = v) (hx : a.eval x = u)
    (hK : ∀ v' w', OwnE TI wb w0 w' v' (l ++ m) → Ext w0 w' → Oth TI w w' → wpList P ops Q rest (a.put o.dst v') w') :
    wpList P ops Q (o :: rest) a w := by
  obtain ⟨v', w', hrun, h1, h2, h3⟩ := run_appendsE hT o.type wb w0 w v u l m hO hI hE hn
  refine wpList_plain hg fun K hK' => ?_
  unfold Oper.wp
  simp [execOp, hop, resolve, invoke, builtin, hs, hx, hrun, Result.andThen]
  exact hK' _ _ (hK v' w' h1 h2 h3)
theorem ints_one (W : World) (y : Int) (TI : TypeId) : Ints (W.alloc (.cells #[.int .i64 y] TI)) (.slice (some ⟨W.heap.size, 0, none⟩) 1 1) [y] := by
  refine ⟨_, 1, rfl, Nat.le_refl _, by simp, fun i hi => ⟨_, rfl, ?_⟩⟩
  match i, hi with
  | 0, _ => simp [go_sem, nth, Addr.add]
/-- append(s, y), with what stays -/
theorem wp_append1K (hT : IntSl P T TI) (hg : o.guard = none) (s x : Operand) (hop : o.op = Op.call { callee := Callee.builtin Builtin.append, args := #[s, x], argTypes := #[T, T] })
    (wb w0 W : World) (v : Value) (l : List Int) (y : Int) (hO : OwnE TI wb w0 W v l) (hE : Ext w0 W) (hn : l.length < 17592186044416) (hs : a.eval s = v) (hx : a.eval x = .slice (some ⟨W.heap.size, 0, none⟩) 1 1)
    (hK : ∀ v' w', OwnE TI wb w0 w' v' (l ++ [y]) → Ext w0 w' → Oth TI W w' → wpList P ops Q rest (a.put o.dst v') w') :
    wpList P ops Q (o :: rest) a (W.alloc (.cells #[.int .i64 y] TI)) :=
  wp_appendsE hT hg s x hop wb w0 _ v _ l [y] (hO.ext ((Ext.refl W).alloc _)) (ints_one W y TI) (hE.alloc _) (by simp; omega) hs hx fun v' w' h1 h2 h3 =>
    hK v' w' h1 h2 ((((Ext.refl W).alloc _).oth TI).trans h3)
end
end Go.Zz

/- Claims: equal ones, marks in what they hold. -/
namespace Go.Zz
open Go.RowKit Go.Proofs
set_option maxHeartbeats 2000000

/-- two values own no block together -/
def Apart (x y : Value) : Prop := ∀ k, x.ownBlock = some k → y.ownBlock ≠ some k
theorem Apart.symm {x y : Value} (h : Apart x y) : Apart y x := fun k hk e => h k e hk
theorem Apart.or {x y : Value} (h : Apart x y) : x.ownBlock = none ∨ x.ownBlock ≠ y.ownBlock := by
  cases hx : x.ownBlock with
  | none => exact Or.inl rfl
  | some k => exact Or.inr fun e => h k hx e.symm
theorem Apart.nil_left (y : Value) : Apart (.slice none 0 0) y := fun k hk => by cases hk
theorem Apart.nil_right (x : Value) : Apart x (.slice none 0 0) := fun k _ h => by cases h
theorem apart_of {TI : TypeId} {a b c d : World} {u v : Value} {l m : List Int} (h : Own TI a b u l) (k : Own TI c d v m) (hs : b.heap.size ≤ c.heap.size) : Apart u v := fun i hi e => by
  have h1 := (h.blk i hi).2
  have h2 := (k.blk i e).1
  omega
/-- four slices that are owned, apart from each other -/
structure Own4 (w0 w : World) (v1 v2 v3 v4 : Value) (g o t q : List Int) : Prop where
  h1 : Own 3 w0 w v1 g
  h2 : Own 3 w0 w v2 o
  h3 : Own 3 w0 w v3 t
  h4 : Own 3 w0 w v4 q
  d12 : Apart v1 v2
  d13 : Apart v1 v3
  d14 : Apart v1 v4
  d23 : Apart v2 v3
  d24 : Apart v2 v4
  d34 : Apart v3 v4
theorem Own4.ext {w0 w w' : World} {v1 v2 v3 v4 : Value} {g o t q : List Int} (h : Own4 w0 w v1 v2 v3 v4 g o t q) (hE : Ext w w') : Own4 w0 w' v1 v2 v3 v4 g o t q :=
  ⟨h.h1.ext hE, h.h2.ext hE, h.h3.ext hE, h.h4.ext hE, h.d12, h.d13, h.d14, h.d23, h.d24, h.d34⟩
theorem Own4.mono {w0 w1 w : World} {v1 v2 v3 v4 : Value} {g o t q : List Int} (h : Own4 w1 w v1 v2 v3 v4 g o t q) (hE : Ext w0 w1) : Own4 w0 w v1 v2 v3 v4 g o t q :=
  ⟨h.h1.mono hE, h.h2.mono hE, h.h3.mono hE, h.h4.mono hE, h.d12, h.d13, h.d14, h.d23, h.d24, h.d34⟩
/-- the slices of a claim read as lists -/
structure Ints4 (w : World) (v1 v2 v3 v4 : Value) (g o t q : List Int) : Prop where
  g : Ints w v1 g
  o : Ints w v2 o
  t : Ints w v3 t
  q : Ints w v4 q
theorem Ints4.ext {w w' : World} {v1 v2 v3 v4 : Value} {g o t q : List Int} (h : Ints4 w v1 v2 v3 v4 g o t q) (hE : Ext w w') : Ints4 w' v1 v2 v3 v4 g o t q :=
  ⟨h.g.ext hE, h.o.ext hE, h.t.ext hE, h.q.ext hE⟩
theorem Own4.ints {w0 w : World} {v1 v2 v3 v4 : Value} {g o t q : List Int} (h : Own4 w0 w v1 v2 v3 v4 g o t q) : Ints4 w v1 v2 v3 v4 g o t q := ⟨h.h1.ints, h.h2.ints, h.h3.ints, h.h4.ints⟩
/-- the slices lie below a block -/
def Below4 (v1 v2 v3 v4 : Value) (top : Nat) : Prop := ∀ k, (v1.ownBlock = some k ∨ v2.ownBlock = some k ∨ v3.ownBlock = some k ∨ v4.ownBlock = some k) → k < top
theorem Own4.below {w0 w : World} {v1 v2 v3 v4 : Value} {g o t q : List Int} (h : Own4 w0 w v1 v2 v3 v4 g o t q) : Below4 v1 v2 v3 v4 w.heap.size := by
  rintro k (hk | hk | hk | hk)
  · exact (h.h1.blk k hk).2
  · exact (h.h2.blk k hk).2
  · exact (h.h3.blk k hk).2
  · exact (h.h4.blk k hk).2
theorem Own.kept_low {TI : TypeId} {w0 w w' : World} {v : Value} {l : List Int} {row : Option Nat} (h : Own TI w0 w v l) (hg : w.grownBy w' row) (hr : ∀ k, row = some k → k < w0.heap.size) : Own TI w0 w' v l :=
  h.kept hg (by
    cases hq : v.ownBlock with
    | none => exact Or.inl rfl
    | some k => exact Or.inr fun e => by have := hr k e.symm; have := (h.blk k hq).1; omega)
theorem Own.kept_high {TI : TypeId} {w0 w w' : World} {v : Value} {l : List Int} {row : Option Nat} (h : Own TI w0 w v l) (hg : w.grownBy w' row) (hr : ∀ k, row = some k → v.ownBlock ≠ some k) : Own TI w0 w' v l :=
  h.kept hg (by
    cases hq : v.ownBlock with
    | none => exact Or.inl rfl
    | some k => exact Or.inr fun e => hr k e.symm hq)
theorem Own4.kept {w0 w w' : World} {v1 v2 v3 v4 : Value} {g o t q : List Int} {row : Option Nat} (h : Own4 w0 w v1 v2 v3 v4 g o t q) (hg : w.grownBy w' row) (hr : ∀ k, row = some k → k < w0.heap.size) : Own4 w0 w' v1 v2 v3 v4 g o t q :=
  ⟨h.h1.kept_low hg hr, h.h2.kept_low hg hr, h.h3.kept_low hg hr, h.h4.kept_low hg hr, h.d12, h.d13, h.d14, h.d23, h.d24, h.d34⟩
/-- a value of type Claim -/
def CV (k : Int) (v1 v2 : Value) (a b s p : Int) (v3 v4 : Value) (n : Int) : Value := .agg #[.int .i64 k, v1, v2, .int .i64 a, .int .i64 b, .int .i64 s, .int .i64 p, v3, v4, .int .i64 n]

end Go.Zz

/- Cosets of small doubling. -/
namespace Go.Zz
open Go.RowKit Go.Proofs
set_option maxHeartbeats 400000

def scD (l : List Int) (a : Int) : Int := if smallF l a then (sumF l a.toNat (oppF l a.toNat) : Int) else 0
def scS (l : List Int) (a : Int) : Int := if smallF l a then (sumF l a.toNat (sumF l a.toNat (oppF l a.toNat)) : Int) else 0
theorem sc_no {l : List Int} {a : Int} (h : smallF l a = false) : scD l a = 0 ∧ scS l a = 0 := by unfold scD scS; rw [h]; exact ⟨rfl, rfl⟩
theorem sc_yes {l : List Int} {n : Nat} (h : smallF l n = true) : scD l n = (sumF l n (oppF l n) : Int) ∧ scS l n = (sumF l n (sumF l n (oppF l n)) : Int) := by unfold scD scS; rw [h]; exact ⟨rfl, rfl⟩
theorem smallF_nat {l : List Int} {a : Int} (h : smallF l a = true) : ∃ n : Nat, a = n ∧ n < 2 ^ ord l ∧ n < 2 ^ 24 ∧ isGrp l = true ∧ isSetB l a = true := by
  unfold smallF at h
  have h1 := (Bool.and_eq_true_iff.1 (Bool.and_eq_true_iff.1 h).1).1
  obtain ⟨n, rfl, a, b, c⟩ := isSetB_nat h1
  exact ⟨n, rfl, a, b, c, h1⟩
--%call sDiff 73 ext sDifferenceOfSets_nat _ _ _ _ _ ({0}) ({1}) ({2})
theorem sDifferenceOfSets_nat (v : Value) (l : List Int) (a b : Nat) (w : World) (h : Ints w v l) (ha : isSetB l a = true) (hb' : isSetB l b = true) :
    Calls Try.prog 73 #[.agg #[v], .int .i64 a, .int .i64 b] w fun e w' => e = .returned (.int .i64 (sumF l a (oppF l b))) ∧ Ext w w' := by
  obtain ⟨wb, hwb⟩ : ∃ wb, wb = w.alloc (.cells #[v] 31) := ⟨_, rfl⟩
  have hE0 := (Ext.refl w).alloc (.cells #[v] 31)
  have hb := box_cell w v 31
  rw [← hwb] at hE0 hb
  have hg : ∀ W, Ext wb W → Ints W v l := fun W hW => h.ext (hE0.trans hW)
  have hE := Ext.refl wb
  have Hsz : Hid (w.heap.size + 1 = wb.heap.size) := Lib.hid (by rw [hwb]; simp [go_sem])
  have Hwb := Lib.hid hwb
  clear hwb h
  obtain ⟨a', e1, -, ha2, hgr⟩ := isSetB_nat ha
  obtain ⟨b', e2, -, hb2, -⟩ := isSetB_nat hb'
  obtain rfl : a = a' := by omega
  obtain rfl : b = b' := by omega
  have hbx := fun U => hb _ (lat_ext wb U)
  have hbx1 := hb wb hE
  have Hgr := Lib.hid hgr
  have ho := oppF_bd hgr b
  clear hgr e1 e2
  go_enter Try.func73, Try.ntmps73
  go_wp2_with fail
  rw [← Hwb.out]
  go_wp2_with (first | (go_at_call 141; (first | (with_reducible refine Calls.mono (sIsSet_val _ _ (a : Int) _ (hg _ hE) ha) ?_) | (with_reducible refine Calls.mono (sIsSet_val _ _ (b : Int) _ (hg _ hE) hb') ?_)); rintro e w' ⟨rfl, hE'⟩; replace hE := hE.trans hE'; clear hE'))
  (refine wp_region_lat (wb) (by kernel_rfl) (by kernel_rfl) hE ?_); (repeat (go_big_quiet_step (first | (go_at_call 167; exact Calls.lat (l3Negate_any _ _ _ _ (hg _ (lat_ext wb _)) (Hgr) (hb2))) | (go_at_call 142; exact Calls.lat (l4Sum_any _ _ _ _ _ (hg _ (lat_ext wb _)) (Hgr) (ha2) (ho)))))); (refine wpQuiet_nil ?_); (intro W hE'); (replace hE := lat_of hE'); (clear hE')
  go_wp2_with fail
  go_ret
  exact ⟨rfl, hE0.trans hE⟩
end Go.Zz

/- Claims of cosets. -/
namespace Go.Zz
open Go.RowKit Go.Proofs
set_option maxHeartbeats 2000000
set_option maxRecDepth 20000

end Go.Zz

/- Elements that are added to kept counts and removed: the program. -/
namespace Go.Zz
open Go.RowKit Go.Proofs
set_option maxHeartbeats 1000000
set_option maxRecDepth 20000

def kvL (b : Bool) (l : List Int) : List Int := if b then l else []
def kvN (b : Bool) (s : Nat) : Int := if b then (s : Int) else 0
def kvM (b : Bool) (l : List Int) (s : Nat) : List Int := if b then tabN l s s else []
theorem kv_no {b : Bool} (h : b = false) (l : List Int) (s : Nat) : kvL b l = [] ∧ kvN b s = 0 ∧ kvM b l s = [] := by subst h; exact ⟨rfl, rfl, rfl⟩
theorem kv_yes {b : Bool} (h : b = true) (l : List Int) (s : Nat) : kvL b l = l ∧ kvN b s = (s : Int) ∧ kvM b l s = tabN l s s := by subst h; exact ⟨rfl, rfl, rfl⟩
def adB (l : List Int) (n : Int) (m : List Int) (x : Int) : Bool := keptB l n m && hasB l x && !n.toNat.testBit x.toNat
def rmB (l : List Int) (n : Int) (m : List Int) (x : Int) : Bool := keptB l n m && hasB l x && n.toNat.testBit x.toNat
def adS (n x : Int) : Nat := n.toNat ||| 2 ^ x.toNat
def rmS (n x : Int) : Nat := andN n.toNat (2 ^ x.toNat)
theorem OwnK2.setCell_below {w0 w : World} {c : Value} {l m : List Int} {n : Int} (h : OwnK2 w0 w c l n m) {p : Addr} (hp : p.block < w0.heap.size) (x : Value) : OwnK2 w0 (w.setCell p x) c l n m := by
  obtain ⟨v, u, rfl, h1, h2, h3⟩ := h; exact ⟨v, u, rfl, h1.setCell_below hp x, h2.setCell_below hp x, h3⟩
theorem NewKept_yes (v : Value) (l : List Int) (s : Nat) (w : World) (h : Ints w v l) (hs : isSetB l s = true) :
    Calls Try.prog 25 #[.agg #[v], .int .i64 s] w fun e w' => ∃ ao co ap cp, e = .returned (.tuple #[.agg #[.slice ao l.length co, .int .i64 s, .slice ap (tabN l s s).length cp], .bool true]) ∧ OwnK2 w w' (.agg #[.slice ao l.length co, .int .i64 s, .slice ap (tabN l s s).length cp]) l s (tabN l s s) ∧ Ext w w' :=
  (NewKept_any v l s w h).mono fun e w' ⟨c, he, hK, hE⟩ => by
    rw [(nk_yes hs).1, (nk_yes hs).2, tabF_N (by rw [hs]; rfl)] at hK
    have hK' := hK
    obtain ⟨v1, u1, rfl, h1, h2, -⟩ := hK
    obtain ⟨ao, co, rfl, -⟩ := h1.shape
    obtain ⟨ap, cp, rfl, -⟩ := h2.shape
    exact ⟨ao, co, ap, cp, by rw [he, hs], hK', hE⟩
theorem or_lt {l : List Int} {a x : Nat} (ha : a < 2 ^ ord l) (hx : x < ord l) : a ||| 2 ^ x < 2 ^ ord l := Nat.or_lt_two_pow ha (Nat.pow_lt_pow_right (by omega) hx)

theorem AddTo_any (c : Value) (l m : List Int) (n x : Int) (w : World) (h : IsK w c l n m) :
    Calls Try.prog 22 #[c, .int .i64 x] w fun e w' => ∃ d, e = .returned (.tuple #[d, .bool (adB l n m x)]) ∧ OwnK2 w w' d (kvL (adB l n m x) l) (kvN (adB l n m x) (adS n x)) (kvM (adB l n m x) l (adS n x)) ∧ Ext w w' := by
  obtain ⟨v, u, rfl, hv, hu⟩ := h
  obtain ⟨wb, hwb⟩ : ∃ wb, wb = w.alloc (.cells #[v, .int .i64 n, u] 40) := ⟨_, rfl⟩
  have hE0 : Ext w wb := by rw [hwb]; exact (Ext.refl _).alloc _
  have B0 : Blk wb w.heap.size 40 #[v, .int .i64 n, u] := by rw [hwb]; exact Blk.new _ _ _
  have b0 : ∀ W, Ext wb W → W.cell? ⟨w.heap.size, 0, none⟩ = some v := fun W hW => (B0.ext hW).cell (i := 0) rfl
  have b1 : ∀ W, Ext wb W → W.cell? ⟨w.heap.size, 1, none⟩ = some (.int .i64 n) := fun W hW => (B0.ext hW).cell (i := 1) rfl
  have b2 : ∀ W, Ext wb W → W.cell? ⟨w.heap.size, 2, none⟩ = some u := fun W hW => (B0.ext hW).cell (i := 2) rfl
  have hg : ∀ W, Ext wb W → Ints W v l := fun W hW => hv.ext (hE0.trans hW)
  have hg2 : ∀ W, Ext wb W → Ints W u m := fun W hW => hu.ext (hE0.trans hW)
  have hE := Ext.refl wb
  have Hsz : Hid (w.heap.size + 1 = wb.heap.size) := Lib.hid (by rw [hwb]; simp [go_sem])
  have Hwb := Lib.hid hwb
  clear hwb hv hu B0
  obtain ⟨wc, hwc⟩ : ∃ wc, wc = wb.alloc (.cells #[.slice none 0 0, .int .i64 0, .slice none 0 0] 40) := ⟨_, rfl⟩
  have hBc : Blk wc wb.heap.size 40 #[.slice none 0 0, .int .i64 0, .slice none 0 0] := by rw [hwc]; exact Blk.new _ _ _
  have hRc : Res wc wb.heap.size 3 := hBc.res (by simp)
  have hAc : Ext wb wc := by rw [hwc]; exact hE.alloc _
  replace hE := Ext.refl wc
  have Hsz2 : Hid (wb.heap.size + 1 = wc.heap.size) := Lib.hid (by rw [hwc]; simp [go_sem])
  have Hwc := Lib.hid hwc
  clear hwc hBc
  have hwc : wb.heap.size < wc.heap.size := by have := Hsz2.out; omega
  have c0 : ∀ W, Ext wc W → W.cell? ⟨w.heap.size, 0, none⟩ = some v := fun W hW => b0 W (hAc.trans hW)
  have c1 : ∀ W, Ext wc W → W.cell? ⟨w.heap.size, 1, none⟩ = some (.int .i64 n) := fun W hW => b1 W (hAc.trans hW)
  have c2 : ∀ W, Ext wc W → W.cell? ⟨w.heap.size, 2, none⟩ = some u := fun W hW => b2 W (hAc.trans hW)
  have hgc : ∀ W, Ext wc W → Ints W v l := fun W hW => hg W (hAc.trans hW)
  have hg2c : ∀ W, Ext wc W → Ints W u m := fun W hW => hg2 W (hAc.trans hW)
  have hrr : ∀ W, Ext wc W → ∀ i, i < 3 → W.cell? ⟨wb.heap.size, i, none⟩ = some (At W ⟨wb.heap.size, i, none⟩) ∧ W.frozen? ⟨wb.heap.size, i, none⟩ = false := fun W hW => hRc.ext hW
  cases hk : keptB l n m
  · have Hv : Hid (adB l n m x = false) := Lib.hid (by unfold adB; rw [hk]; rfl)
    have hr := hrr
    go_enter Try.func22, Try.ntmps22
    go_wp2_with fail
    rw [← Hwb.out, ← Hwc.out]; rw [Hsz.out]
    go_wp2_with (first | (go_at_call 27; refine (IsKept_val _ _ _ _ _ (⟨_, _, rfl, hgc _ hE, hg2c _ hE⟩) (hk)).mono ?_; rintro e w' ⟨rfl, hE'⟩; replace hE := hE.trans hE'; clear hE'))
    exact bodyPost_ret (v := .tuple #[.agg #[.slice none 0 0, .int .i64 0, .slice none 0 0], .bool false]) (by simp [results, Try.results22, go_sem, hrr _ hE]) rfl ⟨_, by rw [Hv.out], by rw [(kv_no Hv.out l 0).1, (kv_no Hv.out l _).2.1, (kv_no Hv.out l _).2.2]; exact OwnK2.none _ _, hE0.trans (Ext.setCell (Ext.setCell (Ext.setCell (hAc.trans hE) (Nat.le_refl _) _) (Nat.le_refl _) _) (Nat.le_refl _) _)⟩
  · cases hx : hasB l x
    · have Hv : Hid (adB l n m x = false) := Lib.hid (by unfold adB; rw [hx]; simp)
      go_enter Try.func22, Try.ntmps22
      go_wp2_with fail
      rw [← Hwb.out, ← Hwc.out]; rw [Hsz.out]
      go_wp2_with (first | (go_at_call 27; refine (IsKept_val _ _ _ _ _ (⟨_, _, rfl, hgc _ hE, hg2c _ hE⟩) (hk)).mono ?_; rintro e w' ⟨rfl, hE'⟩; replace hE := hE.trans hE'; clear hE') | (go_at_call 128; refine (has_val _ _ _ _ (hgc _ hE) hx).mono ?_; rintro e w' ⟨rfl, hE'⟩; replace hE := hE.trans hE'; clear hE'))
      exact bodyPost_ret (v := .tuple #[.agg #[.slice none 0 0, .int .i64 0, .slice none 0 0], .bool false]) (by simp [results, Try.results22, go_sem, hrr _ hE]) rfl ⟨_, by rw [Hv.out], by rw [(kv_no Hv.out l 0).1, (kv_no Hv.out l _).2.1, (kv_no Hv.out l _).2.2]; exact OwnK2.none _ _, hE0.trans (Ext.setCell (Ext.setCell (Ext.setCell (hAc.trans hE) (Nat.le_refl _) _) (Nat.le_refl _) _) (Nat.le_refl _) _)⟩
    · have HB : Hid (adB l n m x = !  n.toNat.testBit x.toNat) := Lib.hid (by unfold adB; rw [hk, hx]; rfl)
      obtain ⟨a, rfl, ha1, ha2, hgr, -, hsa⟩ := keptB_nat hk
      obtain ⟨x, rfl, hx2, -⟩ := hasB_nat hx
      have hob := ord_bd hgr
      have HS : Hid (adS (a : Int) (x : Int) = HOr.hOr a (2 ^ x)) := Lib.hid rfl
      have Hgr := Lib.hid hgr
      clear hgr
      cases hb : a.testBit x
      · have Hv : Hid (adB l a m x = true) := Lib.hid (by rw [HB.out]; simp [hb])
        have hs1 := ishl_one (n := x) (by omega)
        obtain ⟨s, hsd⟩ : ∃ s, s = HOr.hOr a (2 ^ x) := ⟨_, rfl⟩; have hsb : s < 2 ^ ord l := (by rw [hsd]; exact or_lt ha1 hx2); have hs2 : ior (a : Int) ((pw x : Nat) : Int) = (s : Int) := (by rw [hsd]; exact ior_pw ha2 (by omega)); rw [← hsd] at HS; clear hsd
        rw [Hv.out, HS.out]
        have hsl : s < 2 ^ 24 := Nat.lt_of_lt_of_le hsb (pow_ord Hgr.out)
        have hss : isSetB l (s : Int) = true := isSetB_of Hgr.out hsb
        rw [(kv_yes rfl l s).1, (kv_yes rfl l s).2.1, (kv_yes rfl l s).2.2]
        go_enter Try.func22, Try.ntmps22
        go_wp2_with fail
        rw [← Hwb.out, ← Hwc.out]; rw [Hsz.out]
        go_wp2_with (first | (go_at_call 27; refine (IsKept_val _ _ _ _ _ (⟨_, _, rfl, hgc _ hE, hg2c _ hE⟩) (hk)).mono ?_; rintro e w' ⟨rfl, hE'⟩; replace hE := hE.trans hE'; clear hE') | (go_at_call 128; refine (has_val _ _ _ _ (hgc _ hE) hx).mono ?_; rintro e w' ⟨rfl, hE'⟩; replace hE := hE.trans hE'; clear hE') | (go_at_call 129; refine (in_val a x ha2 (by omega) _ hb).mono ?_; rintro e w' ⟨rfl, rfl⟩))
        clear hk hx hb
        have hD := hE.drew
        first | (go_region_held3 (fun W => Ext (wb) W ∧ W.cell? ⟨w.heap.size, 0, none⟩ = some v ∧ W.cell? ⟨w.heap.size, 1, none⟩ = some (.int .i64 (a : Int)) ∧ (∀ i, i < 3 → W.cell? ⟨(wb).heap.size, i, none⟩ = some (At W ⟨(wb).heap.size, i, none⟩) ∧ W.frozen? ⟨(wb).heap.size, i, none⟩ = false)) (exact ⟨(by (repeat (refine Ext.setCell ?_ (Nat.le_refl _) _)); exact Ext.trans hAc (by repeat (first | assumption | exact Ext.refl _ | (apply And.left; assumption) | apply Ext.drew | apply Ext.alloc))), b0 _ (by (repeat (refine Ext.setCell ?_ (Nat.le_refl _) _)); exact Ext.trans hAc (by repeat (first | assumption | exact Ext.refl _ | (apply And.left; assumption) | apply Ext.drew | apply Ext.alloc))), b1 _ (by (repeat (refine Ext.setCell ?_ (Nat.le_refl _) _)); exact Ext.trans hAc (by repeat (first | assumption | exact Ext.refl _ | (apply And.left; assumption) | apply Ext.drew | apply Ext.alloc))), (by (repeat (refine Res.setCell ?_ _ _)); exact Res.ext hRc (by repeat (first | assumption | exact Ext.refl _ | (apply And.left; assumption) | apply Ext.drew | apply Ext.alloc)))⟩) (first | (go_at_call 25; ((with_reducible refine Calls.mono (NewKept_yes _ _ s _ (hgc _ (by repeat (first | assumption | exact Ext.refl _ | (apply And.left; assumption) | apply Ext.drew | apply Ext.alloc))) hss) ?_); rintro e wH0 ⟨ao, co, ap, cp, rfl, hK1, hX0⟩; have hH0 := Ext.trans (a := wc) (by repeat (first | assumption | exact Ext.refl _ | (apply And.left; assumption) | apply Ext.drew | apply Ext.alloc)) hX0)))) | (fail "the region with a result")
        go_wp2_with fail
        have hK2 := hK1.mono (show Ext wc _ by repeat (first | assumption | exact Ext.refl _ | (apply And.left; assumption) | apply Ext.drew | apply Ext.alloc))
        exact bodyPost_ret (v := .tuple #[.agg #[.slice ao l.length co, .int .i64 s, .slice ap (tabN l s s).length cp], .bool true]) (by simp [results, Try.results22, go_sem, hrr _ hH0]) rfl ⟨_, rfl, (((hK2.setCell_below hwc _).setCell_below hwc _).setCell_below hwc _).mono (hE0.trans hAc), hE0.trans (Ext.setCell (Ext.setCell (Ext.setCell (hAc.trans hH0) (Nat.le_refl _) _) (Nat.le_refl _) _) (Nat.le_refl _) _)⟩
      · have Hv : Hid (adB l a m x = false) := Lib.hid (by rw [HB.out]; simp [hb])
        go_enter Try.func22, Try.ntmps22
        go_wp2_with fail
        rw [← Hwb.out, ← Hwc.out]; rw [Hsz.out]
        go_wp2_with (first | (go_at_call 27; refine (IsKept_val _ _ _ _ _ (⟨_, _, rfl, hgc _ hE, hg2c _ hE⟩) (hk)).mono ?_; rintro e w' ⟨rfl, hE'⟩; replace hE := hE.trans hE'; clear hE') | (go_at_call 128; refine (has_val _ _ _ _ (hgc _ hE) hx).mono ?_; rintro e w' ⟨rfl, hE'⟩; replace hE := hE.trans hE'; clear hE') | (go_at_call 129; refine (in_val a x ha2 (by omega) _ hb).mono ?_; rintro e w' ⟨rfl, rfl⟩))
        exact bodyPost_ret (v := .tuple #[.agg #[.slice none 0 0, .int .i64 0, .slice none 0 0], .bool false]) (by simp [results, Try.results22, go_sem, hrr _ hE]) rfl ⟨_, by rw [Hv.out], by rw [(kv_no Hv.out l 0).1, (kv_no Hv.out l _).2.1, (kv_no Hv.out l _).2.2]; exact OwnK2.none _ _, hE0.trans (Ext.setCell (Ext.setCell (Ext.setCell (hAc.trans hE) (Nat.le_refl _) _) (Nat.le_refl _) _) (Nat.le_refl _) _)⟩
theorem RemoveFrom_any (c : Value) (l m : List Int) (n x : Int) (w : World) (h : IsK w c l n m) :
    Calls Try.prog 26 #[c, .int .i64 x] w fun e w' => ∃ d, e = .returned (.tuple #[d, .bool (rmB l n m x)]) ∧ OwnK2 w w' d (kvL (rmB l n m x) l) (kvN (rmB l n m x) (rmS n x)) (kvM (rmB l n m x) l (rmS n x)) ∧ Ext w w' := by
  obtain ⟨v, u, rfl, hv, hu⟩ := h
  obtain ⟨wb, hwb⟩ : ∃ wb, wb = w.alloc (.cells #[v, .int .i64 n, u] 40) := ⟨_, rfl⟩
  have hE0 : Ext w wb := by rw [hwb]; exact (Ext.refl _).alloc _
  have B0 : Blk wb w.heap.size 40 #[v, .int .i64 n, u] := by rw [hwb]; exact Blk.new _ _ _
  have b0 : ∀ W, Ext wb W → W.cell? ⟨w.heap.size, 0, none⟩ = some v := fun W hW => (B0.ext hW).cell (i := 0) rfl
  have b1 : ∀ W, Ext wb W → W.cell? ⟨w.heap.size, 1, none⟩ = some (.int .i64 n) := fun W hW => (B0.ext hW).cell (i := 1) rfl
  have b2 : ∀ W, Ext wb W → W.cell? ⟨w.heap.size, 2, none⟩ = some u := fun W hW => (B0.ext hW).cell (i := 2) rfl
  have hg : ∀ W, Ext wb W → Ints W v l := fun W hW => hv.ext (hE0.trans hW)
  have hg2 : ∀ W, Ext wb W → Ints W u m := fun W hW => hu.ext (hE0.trans hW)
  have hE := Ext.refl wb
  have Hsz : Hid (w.heap.size + 1 = wb.heap.size) := Lib.hid (by rw [hwb]; simp [go_sem])
  have Hwb := Lib.hid hwb
  clear hwb hv hu B0
  obtain ⟨wc, hwc⟩ : ∃ wc, wc = wb.alloc (.cells #[.slice none 0 0, .int .i64 0, .slice none 0 0] 40) := ⟨_, rfl⟩
  have hBc : Blk wc wb.heap.size 40 #[.slice none 0 0, .int .i64 0, .slice none 0 0] := by rw [hwc]; exact Blk.new _ _ _
  have hRc : Res wc wb.heap.size 3 := hBc.res (by simp)
  have hAc : Ext wb wc := by rw [hwc]; exact hE.alloc _
  replace hE := Ext.refl wc
  have Hsz2 : Hid (wb.heap.size + 1 = wc.heap.size) := Lib.hid (by rw [hwc]; simp [go_sem])
  have Hwc := Lib.hid hwc
  clear hwc hBc
  have hwc : wb.heap.size < wc.heap.size := by have := Hsz2.out; omega
  have c0 : ∀ W, Ext wc W → W.cell? ⟨w.heap.size, 0, none⟩ = some v := fun W hW => b0 W (hAc.trans hW)
  have c1 : ∀ W, Ext wc W → W.cell? ⟨w.heap.size, 1, none⟩ = some (.int .i64 n) := fun W hW => b1 W (hAc.trans hW)
  have c2 : ∀ W, Ext wc W → W.cell? ⟨w.heap.size, 2, none⟩ = some u := fun W hW => b2 W (hAc.trans hW)
  have hgc : ∀ W, Ext wc W → Ints W v l := fun W hW => hg W (hAc.trans hW)
  have hg2c : ∀ W, Ext wc W → Ints W u m := fun W hW => hg2 W (hAc.trans hW)
  have hrr : ∀ W, Ext wc W → ∀ i, i < 3 → W.cell? ⟨wb.heap.size, i, none⟩ = some (At W ⟨wb.heap.size, i, none⟩) ∧ W.frozen? ⟨wb.heap.size, i, none⟩ = false := fun W hW => hRc.ext hW
  cases hk : keptB l n m
  · have Hv : Hid (rmB l n m x = false) := Lib.hid (by unfold rmB; rw [hk]; rfl)
    have hr := hrr
    go_enter Try.func26, Try.ntmps26
    go_wp2_with fail
    rw [← Hwb.out, ← Hwc.out]; rw [Hsz.out]
    go_wp2_with (first | (go_at_call 27; refine (IsKept_val _ _ _ _ _ (⟨_, _, rfl, hgc _ hE, hg2c _ hE⟩) (hk)).mono ?_; rintro e w' ⟨rfl, hE'⟩; replace hE := hE.trans hE'; clear hE'))
    exact bodyPost_ret (v := .tuple #[.agg #[.slice none 0 0, .int .i64 0, .slice none 0 0], .bool false]) (by simp [results, Try.results26, go_sem, hrr _ hE]) rfl ⟨_, by rw [Hv.out], by rw [(kv_no Hv.out l 0).1, (kv_no Hv.out l _).2.1, (kv_no Hv.out l _).2.2]; exact OwnK2.none _ _, hE0.trans (Ext.setCell (Ext.setCell (Ext.setCell (hAc.trans hE) (Nat.le_refl _) _) (Nat.le_refl _) _) (Nat.le_refl _) _)⟩
  · cases hx : hasB l x
    · have Hv : Hid (rmB l n m x = false) := Lib.hid (by unfold rmB; rw [hx]; simp)
      go_enter Try.func26, Try.ntmps26
      go_wp2_with fail
      rw [← Hwb.out, ← Hwc.out]; rw [Hsz.out]
      go_wp2_with (first | (go_at_call 27; refine (IsKept_val _ _ _ _ _ (⟨_, _, rfl, hgc _ hE, hg2c _ hE⟩) (hk)).mono ?_; rintro e w' ⟨rfl, hE'⟩; replace hE := hE.trans hE'; clear hE') | (go_at_call 128; refine (has_val _ _ _ _ (hgc _ hE) hx).mono ?_; rintro e w' ⟨rfl, hE'⟩; replace hE := hE.trans hE'; clear hE'))
      exact bodyPost_ret (v := .tuple #[.agg #[.slice none 0 0, .int .i64 0, .slice none 0 0], .bool false]) (by simp [results, Try.results26, go_sem, hrr _ hE]) rfl ⟨_, by rw [Hv.out], by rw [(kv_no Hv.out l 0).1, (kv_no Hv.out l _).2.1, (kv_no Hv.out l _).2.2]; exact OwnK2.none _ _, hE0.trans (Ext.setCell (Ext.setCell (Ext.setCell (hAc.trans hE) (Nat.le_refl _) _) (Nat.le_refl _) _) (Nat.le_refl _) _)⟩
    · have HB : Hid (rmB l n m x =   n.toNat.testBit x.toNat) := Lib.hid (by unfold rmB; rw [hk, hx]; rfl)
      obtain ⟨a, rfl, ha1, ha2, hgr, -, hsa⟩ := keptB_nat hk
      obtain ⟨x, rfl, hx2, -⟩ := hasB_nat hx
      have hob := ord_bd hgr
      have HS : Hid (rmS (a : Int) (x : Int) = andN a (2 ^ x)) := Lib.hid rfl
      have Hgr := Lib.hid hgr
      clear hgr
      cases hb : a.testBit x
      · have Hv : Hid (rmB l a m x = false) := Lib.hid (by rw [HB.out]; simp [hb])
        go_enter Try.func26, Try.ntmps26
        go_wp2_with fail
        rw [← Hwb.out, ← Hwc.out]; rw [Hsz.out]
        go_wp2_with (first | (go_at_call 27; refine (IsKept_val _ _ _ _ _ (⟨_, _, rfl, hgc _ hE, hg2c _ hE⟩) (hk)).mono ?_; rintro e w' ⟨rfl, hE'⟩; replace hE := hE.trans hE'; clear hE') | (go_at_call 128; refine (has_val _ _ _ _ (hgc _ hE) hx).mono ?_; rintro e w' ⟨rfl, hE'⟩; replace hE := hE.trans hE'; clear hE') | (go_at_call 129; refine (in_val a x ha2 (by omega) _ hb).mono ?_; rintro e w' ⟨rfl, rfl⟩))
        exact bodyPost_ret (v := .tuple #[.agg #[.slice none 0 0, .int .i64 0, .slice none 0 0], .bool false]) (by simp [results, Try.results26, go_sem, hrr _ hE]) rfl ⟨_, by rw [Hv.out], by rw [(kv_no Hv.out l 0).1, (kv_no Hv.out l _).2.1, (kv_no Hv.out l _).2.2]; exact OwnK2.none _ _, hE0.trans (Ext.setCell (Ext.setCell (Ext.setCell (hAc.trans hE) (Nat.le_refl _) _) (Nat.le_refl _) _) (Nat.le_refl _) _)⟩
      · have Hv : Hid (rmB l a m x = true) := Lib.hid (by rw [HB.out]; simp [hb])
        have hs1 := ishl_one (n := x) (by omega)
        obtain ⟨s, hsd⟩ : ∃ s, s = andN a (2 ^ x) := ⟨_, rfl⟩; have hsb : s < 2 ^ ord l := (by rw [hsd]; exact andN_lt ha1); have hp24 := pw_le (show x ≤ 24 by omega); have hs2 : iandn (a : Int) ((pw x : Nat) : Int) = (s : Int) := (by rw [hsd]; exact iandn_nat (by omega) (by omega)); rw [← hsd] at HS; clear hsd
        rw [Hv.out, HS.out]
        have hsl : s < 2 ^ 24 := Nat.lt_of_lt_of_le hsb (pow_ord Hgr.out)
        have hss : isSetB l (s : Int) = true := isSetB_of Hgr.out hsb
        rw [(kv_yes rfl l s).1, (kv_yes rfl l s).2.1, (kv_yes rfl l s).2.2]
        go_enter Try.func26, Try.ntmps26
        go_wp2_with fail
        rw [← Hwb.out, ← Hwc.out]; rw [Hsz.out]
        go_wp2_with (first | (go_at_call 27; refine (IsKept_val _ _ _ _ _ (⟨_, _, rfl, hgc _ hE, hg2c _ hE⟩) (hk)).mono ?_; rintro e w' ⟨rfl, hE'⟩; replace hE := hE.trans hE'; clear hE') | (go_at_call 128; refine (has_val _ _ _ _ (hgc _ hE) hx).mono ?_; rintro e w' ⟨rfl, hE'⟩; replace hE := hE.trans hE'; clear hE') | (go_at_call 129; refine (in_val a x ha2 (by omega) _ hb).mono ?_; rintro e w' ⟨rfl, rfl⟩))
        clear hk hx hb
        have hD := hE.drew
        first | (go_region_held3 (fun W => Ext (wb) W ∧ W.cell? ⟨w.heap.size, 0, none⟩ = some v ∧ W.cell? ⟨w.heap.size, 1, none⟩ = some (.int .i64 (a : Int)) ∧ (∀ i, i < 3 → W.cell? ⟨(wb).heap.size, i, none⟩ = some (At W ⟨(wb).heap.size, i, none⟩) ∧ W.frozen? ⟨(wb).heap.size, i, none⟩ = false)) (exact ⟨(by (repeat (refine Ext.setCell ?_ (Nat.le_refl _) _)); exact Ext.trans hAc (by repeat (first | assumption | exact Ext.refl _ | (apply And.left; assumption) | apply Ext.drew | apply Ext.alloc))), b0 _ (by (repeat (refine Ext.setCell ?_ (Nat.le_refl _) _)); exact Ext.trans hAc (by repeat (first | assumption | exact Ext.refl _ | (apply And.left; assumption) | apply Ext.drew | apply Ext.alloc))), b1 _ (by (repeat (refine Ext.setCell ?_ (Nat.le_refl _) _)); exact Ext.trans hAc (by repeat (first | assumption | exact Ext.refl _ | (apply And.left; assumption) | apply Ext.drew | apply Ext.alloc))), (by (repeat (refine Res.setCell ?_ _ _)); exact Res.ext hRc (by repeat (first | assumption | exact Ext.refl _ | (apply And.left; assumption) | apply Ext.drew | apply Ext.alloc)))⟩) (first | (go_at_call 25; ((with_reducible refine Calls.mono (NewKept_yes _ _ s _ (hgc _ (by repeat (first | assumption | exact Ext.refl _ | (apply And.left; assumption) | apply Ext.drew | apply Ext.alloc))) hss) ?_); rintro e wH0 ⟨ao, co, ap, cp, rfl, hK1, hX0⟩; have hH0 := Ext.trans (a := wc) (by repeat (first | assumption | exact Ext.refl _ | (apply And.left; assumption) | apply Ext.drew | apply Ext.alloc)) hX0)))) | (fail "the region with a result")
        go_wp2_with fail
        have hK2 := hK1.mono (show Ext wc _ by repeat (first | assumption | exact Ext.refl _ | (apply And.left; assumption) | apply Ext.drew | apply Ext.alloc))
        exact bodyPost_ret (v := .tuple #[.agg #[.slice ao l.length co, .int .i64 s, .slice ap (tabN l s s).length cp], .bool true]) (by simp [results, Try.results26, go_sem, hrr _ hH0]) rfl ⟨_, rfl, (((hK2.setCell_below hwc _).setCell_below hwc _).setCell_below hwc _).mono (hE0.trans hAc), hE0.trans (Ext.setCell (Ext.setCell (Ext.setCell (hAc.trans hH0) (Nat.le_refl _) _) (Nat.le_refl _) _) (Nat.le_refl _) _)⟩
end Go.Zz

/- Steps of regions that draw their order: a struct variable is made, a struct is stored into it. -/
namespace Go.Zz
open Go.RowKit Go.Proofs
set_option maxHeartbeats 2000000
set_option maxRecDepth 20000

theorem step_allocK {ops : Array Oper} {o : Oper} {a : Act} {w : World} {K : Act → World → Prop} {Q : Exit → Act → World → Prop} {E : Prop} (hg : o.guard = none) (hop : o.op = Op.alloc 40)
    (hK : ∀ g w', Blk w' g 40 #[.slice none 0 0, .int .i64 0, .slice none 0 0] → w.heap.size ≤ g → Ext w w' → K (a.put o.dst (.pointer (some ⟨g, 0, none⟩))) w') :
    if Region.wanted o (yielded ops a.tmps) = true then Oper.wp Try.prog o a w K Q else E := by
  have hw : Region.wanted o (yielded ops a.tmps) = true := by simp [Region.wanted, hg]
  rw [if_pos hw]
  have := hK w.heap.size (w.alloc (.cells #[.slice none 0 0, .int .i64 0, .slice none 0 0] 40)) (Blk.new _ _ _) (Nat.le_refl _) ((Ext.refl w).alloc _)
  unfold Oper.wp
  simp [execOp, hop, Result.andThen, go_sem, Instr.alloc]
  exact this
theorem step_storeK {ops : Array Oper} {o : Oper} {a : Act} {w : World} {K : Act → World → Prop} {Q : Exit → Act → World → Prop} {E : Prop} (hg : o.guard = none) (p x : Operand) (hop : o.op = Op.store 40 p x) (hd : o.dst = none)
    (g : Nat) (ao ap : Option Addr) (n m c d : Nat) (z : Int) (hp : a.eval p = .pointer (some ⟨g, 0, none⟩)) (hx : a.eval x = .agg #[.slice ao n c, .int .i64 z, .slice ap m d]) (hB : Blk w g 40 #[.slice none 0 0, .int .i64 0, .slice none 0 0])
    (hK : Blk (((w.setCell ⟨g, 0, none⟩ (.slice ao n c)).setCell ⟨g, 1, none⟩ (.int .i64 z)).setCell ⟨g, 2, none⟩ (.slice ap m d)) g 40 #[.slice ao n c, .int .i64 z, .slice ap m d] → K a (((w.setCell ⟨g, 0, none⟩ (.slice ao n c)).setCell ⟨g, 1, none⟩ (.int .i64 z)).setCell ⟨g, 2, none⟩ (.slice ap m d))) :
    if Region.wanted o (yielded ops a.tmps) = true then Oper.wp Try.prog o a w K Q else E := by
  have hw : Region.wanted o (yielded ops a.tmps) = true := by simp [Region.wanted, hg]
  rw [if_pos hw]
  have h0 := hB.cell (i := 0) (v := .slice none 0 0) rfl
  have h1 := hB.cell (i := 1) (v := .int .i64 0) rfl
  have h2 := hB.cell (i := 2) (v := .slice none 0 0) rfl
  have f0 := hB.free 0
  have f1 := hB.free 1
  have f2 := hB.free 2
  have := hK (((hB.set 0 _).set 1 _).set 2 _)
  unfold Oper.wp
  simp only [execOp, hop, hp, hx]
  simp [Result.andThen, go_sem, h0, h1, h2, f0, f1, f2, hd]
  simpa [Act.put, hd] using this
/-- append([]int{}, xs...) as a step of a region that draws its order; where its block lies -/
theorem step_copy2 {P : Program} {ops : Array Oper} {o : Oper} {a : Act} {w : World} {K : Act → World → Prop} {Q : Exit → Act → World → Prop} {E : Prop} {T TI : TypeId} (hT : IntSl P T TI)
    (hg : o.guard = none) (s x : Operand) (hop : o.op = Op.call { callee := Callee.builtin Builtin.append, args := #[s, x], argTypes := #[T, T] })
    (g : Nat) (u : Value) (m : List Int) (hs : a.eval s = .slice (some ⟨g, 0, none⟩) 0 0) (hx : a.eval x = u) (hB : Blk w g TI #[]) (hI : Ints w u m) (w0 : World) (h0 : w0.heap.size ≤ g) (hE : Ext w0 w)
    (hK : ∀ ao c w', Own TI w0 w' (.slice ao m.length c) m → (∀ k, (Value.slice ao m.length c).ownBlock = some k → k = g ∨ w.heap.size ≤ k) → Ext w w' → K (a.put o.dst (.slice ao m.length c)) w') :
    if Region.wanted o (yielded ops a.tmps) = true then Oper.wp P o a w K Q else E := by
  have hw : Region.wanted o (yielded ops a.tmps) = true := by simp [Region.wanted, hg]
  rw [if_pos hw]
  obtain ⟨i, hi, hz, hs1, hby⟩ := hT.info
  have hown : w.ownsRow w0.heap.size TI 1 (.slice (some ⟨g, 0, none⟩) 0 0) 0 [] := by
    have hB' : w.heap[g]? = some (.cells #[] TI (0, 0)) := hB
    exact ⟨by simp, Or.inr ⟨g, 0, #[], rfl, h0, hB', Nat.le_refl _, Nat.zero_le _, by simp, by simp⟩⟩
  obtain ⟨ao, c, rfl, hmc, hml, hc⟩ := hI
  have key : m = [] → Oper.wp P o a w K Q := by
    intro hm
    subst hm
    have hrun2 : (Builtin.append_ #[T, T] o.type #[.slice (some ⟨g, 0, none⟩) 0 0, .slice ao 0 c]).run P w = .ok (.slice (some ⟨g, 0, none⟩) 0 0) w := by
      have hrun := run_append_owned_none (P := P) w w0.heap.size T o.type TI i 1 hT.und hi (.slice (some ⟨g, 0, none⟩) 0 0) 0 [] hown
      rw [← hrun]; cases ao <;> simp [Builtin.append_, run_underlying hT.und, sizeOf, typeInfo, hi, Builtin.lenOf, Builtin.firstCells, go_sem]
    unfold Oper.wp
    simp [execOp, hop, resolve, invoke, builtin, hs, hx, hrun2, Result.andThen]
    exact hK (some ⟨g, 0, none⟩) 0 _ ⟨by simpa using hown, by simp⟩ (fun k hk => by simp [Value.ownBlock] at hk; exact Or.inl hk.symm) (Ext.refl w)
  by_cases hm : m = []
  · exact key hm
  · have hpos : 0 < m.length := Nat.pos_of_ne_zero (fun e => hm (List.eq_nil_of_length_eq_zero e))
    cases ao with
    | none => obtain ⟨_, h, _⟩ := hc 0 hpos; cases h
    | some ad =>
      obtain ⟨v', w', hrun, r1, r2⟩ := run_append_arg_grows (P := P) (w := w) T o.type TI i (.int .i64 0) 1 8 hT.und hi hz hs1 hby rfl (by omega) ⟨g, 0, none⟩ 0 0 [] (by simp) (by simp) ad m.length c (m.map (Value.int .i64)) (by simp) (by
        intro j u hu
        have hj : j < m.length := by have := (List.getElem?_eq_some_iff.1 hu).1; simpa using this
        obtain ⟨a', ha', hc'⟩ := hc j hj
        cases ha'
        rw [hc', ← hu, nth_get _ _ hj]; simp [hj]) (by omega) (by unfold maxLen; omega) (by omega)
      unfold Oper.wp
      simp [execOp, hop, resolve, invoke, builtin, hs, hx, hrun, Result.andThen]
      have hO' : Own TI w w' v' m := ⟨by simpa using r1, hml⟩
      obtain ⟨ao', c', rfl, -⟩ := hO'.shape
      exact hK ao' c' w' (hO'.mono hE) (fun k hk => Or.inr (hO'.blk k hk).1) ((Ext.refl w).grown r2 (by simp))
theorem step_build {ops : Array Oper} {o : Oper} {a : Act} {w : World} {K : Act → World → Prop} {Q : Exit → Act → World → Prop} {E : Prop} (hg : o.guard = none) (hop : o.op = Op.buildSlice 22 0 #[])
    (hK : ∀ g w', Blk w' g 3 #[] → w.heap.size ≤ g → Ext w w' → K (a.put o.dst (.slice (some ⟨g, 0, none⟩) 0 0)) w') :
    if Region.wanted o (yielded ops a.tmps) = true then Oper.wp Try.prog o a w K Q else E := by
  have hw : Region.wanted o (yielded ops a.tmps) = true := by simp [Region.wanted, hg]
  rw [if_pos hw]
  have := hK w.heap.size (w.alloc (.cells #[] 3)) (Blk.new _ _ _) (Nat.le_refl _) ((Ext.refl w).alloc _)
  unfold Oper.wp
  simp [execOp, hop, Result.andThen, go_sem]
  exact this
theorem grown_setCell (w : World) (a : Addr) (u : Value) : w.grownBy (w.setCell a u) (some a.block) :=
  ⟨rfl, rfl, rfl, by simp, fun k _ hk => Below.heap_setCell _ _ _ _ (fun e => hk (by rw [e]))⟩
theorem Own.setCell_ne {TI : TypeId} {w0 w : World} {v : Value} {l : List Int} (h : Own TI w0 w v l) {p : Addr} (hp : v.ownBlock ≠ some p.block) (u : Value) : Own TI w0 (w.setCell p u) v l :=
  h.kept (grown_setCell w p u) (Or.inr hp)
theorem Own.ne_of {TI : TypeId} {w0 w : World} {v : Value} {l : List Int} (h : Own TI w0 w v l) {b : Nat} (hb : b < w0.heap.size ∨ w.heap.size ≤ b) : v.ownBlock ≠ some b := fun e => by
  have := h.blk b e; omega
/-- a row of another type lies in another block -/
theorem Own.ne_blk {TI T : TypeId} {w0 w : World} {v : Value} {l : List Int} (h : Own TI w0 w v l) {g : Nat} {cs : Array Value} (hB : Blk w g T cs) (hT : T ≠ TI) : v.ownBlock ≠ some g := fun e => by
  obtain ⟨h1, h2⟩ := h
  rcases h1.2 with ⟨rfl, _⟩ | ⟨g', cap, cur, rfl, _, hh, _⟩
  · cases e
  · simp [Value.ownBlock] at e
    subst e
    have hB' : w.heap[g']? = some (.cells cs T (0, 0)) := hB
    rw [hB'] at hh
    simp at hh
    exact hT hh.2
end Go.Zz

/- The search for an isomorphism: the reference. -/
namespace Go.Zz
open Go.RowKit Go.Proofs
set_option maxHeartbeats 2000000
set_option maxRecDepth 8000

theorem step_build1 {ops : Array Oper} {o : Oper} {a : Act} {w : World} {K : Act → World → Prop} {Q : Exit → Act → World → Prop} {E : Prop} (hg : o.guard = none) (x : Operand) (y : Int) (hop : o.op = Op.buildSlice 22 1 #[(0, x)]) (hx : a.eval x = .int .i64 y)
    (hK : ∀ g w', Blk w' g 3 #[.int .i64 y] → w.heap.size ≤ g → Ext w w' → K (a.put o.dst (.slice (some ⟨g, 0, none⟩) 1 1)) w') :
    if Region.wanted o (yielded ops a.tmps) = true then Oper.wp Try.prog o a w K Q else E := by
  have hw : Region.wanted o (yielded ops a.tmps) = true := by simp [Region.wanted, hg]
  rw [if_pos hw]
  have := hK w.heap.size (w.alloc (.cells #[.int .i64 y] 3)) (Blk.new _ _ _) (Nat.le_refl _) ((Ext.refl w).alloc _)
  unfold Oper.wp
  simp [execOp, hop, hx]
  simp [Result.andThen, go_sem]
  exact this
theorem Ints.take {w : World} {ao : Option Addr} {n c : Nat} {l : List Int} (h : Ints w (.slice ao n c) l) {k : Nat} (hk : k ≤ l.length) : Ints w (.slice ao k c) (l.take k) := by
  obtain ⟨ao', c', hv, h1, h2, h3⟩ := h
  simp only [Value.slice.injEq] at hv
  obtain ⟨rfl, rfl, rfl⟩ := hv
  have hl : (l.take k).length = k := by rw [List.length_take]; omega
  refine ⟨ao, c, by rw [hl], by rw [hl]; omega, by rw [hl]; omega, fun i hi => ?_⟩
  rw [hl] at hi
  obtain ⟨a, ha, hc⟩ := h3 i (by omega)
  refine ⟨a, ha, ?_⟩
  rw [hc]; simp [nth, List.getD, hi]
theorem castL_take (L : List Nat) (n : Nat) : castL (L.take n) = (castL L).take n := by simp [castL]
theorem Blk.ints1 {w : World} {g : Nat} {T : TypeId} {y : Int} (h : Blk w g T #[.int .i64 y]) : Ints w (.slice (some ⟨g, 0, none⟩) 1 1) [y] := by
  refine ⟨_, 1, rfl, Nat.le_refl _, by simp, fun i hi => ⟨_, rfl, ?_⟩⟩
  match i, hi with
  | 0, _ => exact h.cell (i := 0) rfl
theorem Ints.cap {w : World} {ao : Option Addr} {n c : Nat} {l : List Int} (h : Ints w (.slice ao n c) l) : n ≤ c := by
  obtain ⟨ao', c', hv, h1, _⟩ := h
  simp only [Value.slice.injEq] at hv
  obtain ⟨rfl, rfl, rfl⟩ := hv
  exact h1
/-- l[:k] -/
theorem run_cut {P : Program} {t : TypeId} (ht : P.underlying t = some (.slice (P.elem t))) (hs : ∀ w, (sizeOf (P.elem t)).run P w = .ok 1 w) (ao : Option Addr) (n c : Nat) (k : Int) (k0 : 0 ≤ k) (hk : k ≤ c) (W : World) :
    (Instr.slice t (.slice ao n c) none (some (.int .i64 k)) none).run P W = .ok (.slice ao k.toNat c) W := by
  rw [run_slice_h (ht := ht) (h0 := k0) (h2 := hk), hs]
  simp [Result.andThen, sliced]
  cases ao <;> simp [Addr.add]
theorem run_cutAt {P : Program} {t : TypeId} (ht : P.underlying t = some (.slice (P.elem t))) (hs : ∀ w, (sizeOf (P.elem t)).run P w = .ok 1 w) (ao : Option Addr) (n c : Nat) (k : Int) (k0 : 0 ≤ k) (hk : k ≤ c) (W : World) :
    (Instr.sliceAt t (.slice ao n c) none (some (.int .i64 k)) none).run P W = .ok (.slice ao k.toNat c) W := by
  rw [run_sliceAt_slice (h := ht), run_cut ht hs ao n c k k0 hk]
/-- the list with one number more, in memory of the call's own -/
def NxP (w0 : World) (M : List Nat) (Y : Nat) (s : Value) (wx : World) : Prop :=
  ∃ ao c, s = .slice ao (M.length + 1) c ∧ Own 3 w0 wx (.slice ao (M.length + 1) c) (castL (M ++ [Y])) ∧ Ext w0 wx
theorem NxP.of {w0 : World} {M : List Nat} {Y : Nat} {s : Value} {wx : World} (h : OwnE 3 w0 w0 wx s (castL M ++ [(Y : Int)])) (hE : Ext w0 wx) : NxP w0 M Y s wx := by
  have h2 := h.own (Ext.refl w0)
  rw [show castL M ++ [(Y : Int)] = castL (M ++ [Y]) by simp [castL]] at h2
  obtain ⟨ao, c, rfl, -⟩ := h2.shape
  rw [castL_len] at h2 ⊢
  rw [show (M ++ [Y]).length = M.length + 1 by simp] at h2 ⊢
  exact ⟨ao, c, rfl, h2, hE⟩
end Go.Zz
