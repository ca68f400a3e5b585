/- Steps of regions that draw their order: a struct variable is made, a struct is stored into it. -/
import Derived.Test.YtdlbbpeahicakaaGreatGr6
import Derived.Deep.DeepCutAuto
import Derived.Test.YtdlbbpeahicakaaGreatGr9
import Derived.Test.YtdlbbpeahicakaaGreatGr7
import Derived.Deep.RegionHeld3
import Derived.WalkSpells
import Derived.Test.YtdlbbpeahicakaaGreatGr2
import Derived.Test.YtdlbbpeahicakaaGreatGr8
import Derived.Test.YtdlbbpeahicakaaGreatGr4
namespace Go.Zz
open Go.RowKit Go.Proofs
set_option maxHeartbeats 2000000
set_option maxRecDepth 20000

/-- append([]int{}, xs...) as a step of a region that draws its order; where its block lies -/
theorem step_copy2 {P : Program} {ops : Array Oper} {o : Oper} {a : Act} {w : World} {K : Act → World → Prop} {Q : Exit → Act → World → Prop} {E : Prop} {T TI : TypeId} (hT : IntSl P T TI)
    (hg : o.guard = none) (s x : Operand) (hop : o.op = Op.call { callee := Callee.builtin Builtin.append, args := #[s, x], argTypes := #[T, T] })
    (g : Nat) (u : Value) (m : List Int) (hs : a.eval s = .slice (some ⟨g, 0, none⟩) 0 0) (hx : a.eval x = u) (hB : Blk w g TI #[]) (hI : Ints w u m) (w0 : World) (h0 : w0.heap.size ≤ g) (hE : Ext w0 w)
    (hK : ∀ ao c w', Own TI w0 w' (.slice ao m.length c) m → (∀ k, (Value.slice ao m.length c).ownBlock = some k → k = g ∨ w.heap.size ≤ k) → Ext w w' → K (a.put o.dst (.slice ao m.length c)) w') :
    if Region.wanted o (yielded ops a.tmps) = true then Oper.wp P o a w K Q else E := by
  have hw : Region.wanted o (yielded ops a.tmps) = true := by simp [Region.wanted, hg]
  rw [if_pos hw]
  obtain ⟨i, hi, hz, hs1, hby⟩ := hT.info
  have hown : w.ownsRow w0.heap.size TI 1 (.slice (some ⟨g, 0, none⟩) 0 0) 0 [] := by
    have hB' : w.heap[g]? = some (.cells #[] TI (0, 0)) := hB
    exact ⟨by simp, Or.inr ⟨g, 0, #[], rfl, h0, hB', Nat.le_refl _, Nat.zero_le _, by simp, by simp⟩⟩
  obtain ⟨ao, c, rfl, hmc, hml, hc⟩ := hI
  have key : m = [] → Oper.wp P o a w K Q := by
    intro hm
    subst hm
    have hrun2 : (Builtin.append_ #[T, T] o.type #[.slice (some ⟨g, 0, none⟩) 0 0, .slice ao 0 c]).run P w = .ok (.slice (some ⟨g, 0, none⟩) 0 0) w := by
      have hrun := run_append_owned_none (P := P) w w0.heap.size T o.type TI i 1 hT.und hi (.slice (some ⟨g, 0, none⟩) 0 0) 0 [] hown
      rw [← hrun]; cases ao <;> simp [Builtin.append_, run_underlying hT.und, sizeOf, typeInfo, hi, Builtin.lenOf, Builtin.firstCells, go_sem]
    unfold Oper.wp
    simp [execOp, hop, resolve, invoke, builtin, hs, hx, hrun2, Result.andThen]
    exact hK (some ⟨g, 0, none⟩) 0 _ ⟨by simpa using hown, by simp⟩ (fun k hk => by simp [Value.ownBlock] at hk; exact Or.inl hk.symm) (Ext.refl w)
  by_cases hm : m = []
  · exact key hm
  · have hpos : 0 < m.length := Nat.pos_of_ne_zero (fun e => hm (List.eq_nil_of_length_eq_zero e))
    cases ao with
    | none => obtain ⟨_, h, _⟩ := hc 0 hpos; cases h
    | some ad =>
      obtain ⟨v', w', hrun, r1, r2⟩ := run_append_arg_grows (P := P) (w := w) T o.type TI i (.int .i64 0) 1 8 hT.und hi hz hs1 hby rfl (by omega) ⟨g, 0, none⟩ 0 0 [] (by simp) (by simp) ad m.length c (m.map (Value.int .i64)) (by simp) (by
        intro j u hu
        have hj : j < m.length := by have := (List.getElem?_eq_some_iff.1 hu).1; simpa using this
        obtain ⟨a', ha', hc'⟩ := hc j hj
        cases ha'
        rw [hc', ← hu, nth_get _ _ hj]; simp [hj]) (by omega) (by unfold maxLen; omega) (by omega)
      unfold Oper.wp
      simp [execOp, hop, resolve, invoke, builtin, hs, hx, hrun, Result.andThen]
      have hO' : Own TI w w' v' m := ⟨by simpa using r1, hml⟩
      obtain ⟨ao', c', rfl, -⟩ := hO'.shape
      exact hK ao' c' w' (hO'.mono hE) (fun k hk => Or.inr (hO'.blk k hk).1) ((Ext.refl w).grown r2 (by simp))
theorem step_build {ops : Array Oper} {o : Oper} {a : Act} {w : World} {K : Act → World → Prop} {Q : Exit → Act → World → Prop} {E : Prop} (hg : o.guard = none) (hop : o.op = Op.buildSlice 22 0 #[])
    (hK : ∀ g w', Blk w' g 3 #[] → w.heap.size ≤ g → Ext w w' → K (a.put o.dst (.slice (some ⟨g, 0, none⟩) 0 0)) w') :
    if Region.wanted o (yielded ops a.tmps) = true then Oper.wp Tryz.prog o a w K Q else E := by
  have hw : Region.wanted o (yielded ops a.tmps) = true := by simp [Region.wanted, hg]
  rw [if_pos hw]
  have := hK w.heap.size (w.alloc (.cells #[] 3)) (Blk.new _ _ _) (Nat.le_refl _) ((Ext.refl w).alloc _)
  unfold Oper.wp
  simp [execOp, hop, Result.andThen, go_sem]
  exact this
theorem grown_setCell (w : World) (a : Addr) (u : Value) : w.grownBy (w.setCell a u) (some a.block) :=
  ⟨rfl, rfl, rfl, by simp, fun k _ hk => Below.heap_setCell _ _ _ _ (fun e => hk (by rw [e]))⟩
theorem Own.setCell_ne {TI : TypeId} {w0 w : World} {v : Value} {l : List Int} (h : Own TI w0 w v l) {p : Addr} (hp : v.ownBlock ≠ some p.block) (u : Value) : Own TI w0 (w.setCell p u) v l :=
  h.kept (grown_setCell w p u) (Or.inr hp)
theorem Own.ne_of {TI : TypeId} {w0 w : World} {v : Value} {l : List Int} (h : Own TI w0 w v l) {b : Nat} (hb : b < w0.heap.size ∨ w.heap.size ≤ b) : v.ownBlock ≠ some b := fun e => by
  have := h.blk b e; omega
/-- a row of another type lies in another block -/
theorem Own.ne_blk {TI T : TypeId} {w0 w : World} {v : Value} {l : List Int} (h : Own TI w0 w v l) {g : Nat} {cs : Array Value} (hB : Blk w g T cs) (hT : T ≠ TI) : v.ownBlock ≠ some g := fun e => by
  obtain ⟨h1, h2⟩ := h
  rcases h1.2 with ⟨rfl, _⟩ | ⟨g', cap, cur, rfl, _, hh, _⟩
  · cases e
  · simp [Value.ownBlock] at e
    subst e
    have hB' : w.heap[g']? = some (.cells cs T (0, 0)) := hB
    rw [hB'] at hh
    simp at hh
    exact hT hh.2
end Go.Zz

/- The search for an isomorphism: the reference. -/
namespace Go.Zz
open Go.RowKit Go.Proofs
set_option maxHeartbeats 2000000
set_option maxRecDepth 8000

theorem step_build1 {ops : Array Oper} {o : Oper} {a : Act} {w : World} {K : Act → World → Prop} {Q : Exit → Act → World → Prop} {E : Prop} (hg : o.guard = none) (x : Operand) (y : Int) (hop : o.op = Op.buildSlice 22 1 #[(0, x)]) (hx : a.eval x = .int .i64 y)
    (hK : ∀ g w', Blk w' g 3 #[.int .i64 y] → w.heap.size ≤ g → Ext w w' → K (a.put o.dst (.slice (some ⟨g, 0, none⟩) 1 1)) w') :
    if Region.wanted o (yielded ops a.tmps) = true then Oper.wp Tryz.prog o a w K Q else E := by
  have hw : Region.wanted o (yielded ops a.tmps) = true := by simp [Region.wanted, hg]
  rw [if_pos hw]
  have := hK w.heap.size (w.alloc (.cells #[.int .i64 y] 3)) (Blk.new _ _ _) (Nat.le_refl _) ((Ext.refl w).alloc _)
  unfold Oper.wp
  simp [execOp, hop, hx]
  simp [Result.andThen, go_sem]
  exact this
theorem Ints.take {w : World} {ao : Option Addr} {n c : Nat} {l : List Int} (h : Ints w (.slice ao n c) l) {k : Nat} (hk : k ≤ l.length) : Ints w (.slice ao k c) (l.take k) := by
  obtain ⟨ao', c', hv, h1, h2, h3⟩ := h
  simp only [Value.slice.injEq] at hv
  obtain ⟨rfl, rfl, rfl⟩ := hv
  have hl : (l.take k).length = k := by rw [List.length_take]; omega
  refine ⟨ao, c, by rw [hl], by rw [hl]; omega, by rw [hl]; omega, fun i hi => ?_⟩
  rw [hl] at hi
  obtain ⟨a, ha, hc⟩ := h3 i (by omega)
  refine ⟨a, ha, ?_⟩
  rw [hc]; simp [nth, List.getD, hi]
theorem castL_take (L : List Nat) (n : Nat) : castL (L.take n) = (castL L).take n := by simp [castL]
theorem Blk.ints1 {w : World} {g : Nat} {T : TypeId} {y : Int} (h : Blk w g T #[.int .i64 y]) : Ints w (.slice (some ⟨g, 0, none⟩) 1 1) [y] := by
  refine ⟨_, 1, rfl, Nat.le_refl _, by simp, fun i hi => ⟨_, rfl, ?_⟩⟩
  match i, hi with
  | 0, _ => exact h.cell (i := 0) rfl
theorem Ints.cap {w : World} {ao : Option Addr} {n c : Nat} {l : List Int} (h : Ints w (.slice ao n c) l) : n ≤ c := by
  obtain ⟨ao', c', hv, h1, _⟩ := h
  simp only [Value.slice.injEq] at hv
  obtain ⟨rfl, rfl, rfl⟩ := hv
  exact h1
/-- l[:k] -/
theorem run_cut {P : Program} {t : TypeId} (ht : P.underlying t = some (.slice (P.elem t))) (hs : ∀ w, (sizeOf (P.elem t)).run P w = .ok 1 w) (ao : Option Addr) (n c : Nat) (k : Int) (k0 : 0 ≤ k) (hk : k ≤ c) (W : World) :
    (Instr.slice t (.slice ao n c) none (some (.int .i64 k)) none).run P W = .ok (.slice ao k.toNat c) W := by
  rw [run_slice_h (ht := ht) (h0 := k0) (h2 := hk), hs]
  simp [Result.andThen, sliced]
  cases ao <;> simp [Addr.add]
theorem run_cutAt {P : Program} {t : TypeId} (ht : P.underlying t = some (.slice (P.elem t))) (hs : ∀ w, (sizeOf (P.elem t)).run P w = .ok 1 w) (ao : Option Addr) (n c : Nat) (k : Int) (k0 : 0 ≤ k) (hk : k ≤ c) (W : World) :
    (Instr.sliceAt t (.slice ao n c) none (some (.int .i64 k)) none).run P W = .ok (.slice ao k.toNat c) W := by
  rw [run_sliceAt_slice (h := ht), run_cut ht hs ao n c k k0 hk]
/-- the list with one number more, in memory of the call's own -/
def NxP (w0 : World) (M : List Nat) (Y : Nat) (s : Value) (wx : World) : Prop :=
  ∃ ao c, s = .slice ao (M.length + 1) c ∧ Own 3 w0 wx (.slice ao (M.length + 1) c) (castL (M ++ [Y])) ∧ Ext w0 wx
theorem NxP.of {w0 : World} {M : List Nat} {Y : Nat} {s : Value} {wx : World} (h : OwnE 3 w0 w0 wx s (castL M ++ [(Y : Int)])) (hE : Ext w0 wx) : NxP w0 M Y s wx := by
  have h2 := h.own (Ext.refl w0)
  rw [show castL M ++ [(Y : Int)] = castL (M ++ [Y]) by simp [castL]] at h2
  obtain ⟨ao, c, rfl, -⟩ := h2.shape
  rw [castL_len] at h2 ⊢
  rw [show (M ++ [Y]).length = M.length + 1 by simp] at h2 ⊢
  exact ⟨ao, c, rfl, h2, hE⟩
theorem sFind_any (v u : Value) (g h : List Int) (L : List Nat) (vL : Value) (b : Nat) (Hg : Hid (isGrp g = true)) (Hh : Hid (isGrp h = true)) (hLn : L.Nodup) (hLo : ∀ y ∈ L, y < ord g) (hl1 : 1 ≤ L.length) (hl5 : L.length ≤ 5) (hb2 : b < 2 ^ ord h) :
    ∀ (f : Nat) (M : List Nat) (vM : Value) (W0 w : World), Ints w v g → Ints w u h → Ints w vL (castL L) → Own 3 W0 w vM (castL M) → Ext W0 w → M.Nodup → (∀ y ∈ M, y < ord h) → M.length ≤ L.length → L.length < M.length + f →
    Calls Tryz.prog 181 #[.agg #[v], .agg #[u], vL, vM, .int .i64 b] w fun e w' => ∃ v' Z, e = .returned (.tuple #[v', .bool (fiS g h L (elems b) f M).isSome]) ∧ Own 3 W0 w' v' (castL Z) ∧ (∀ N, fiS g h L (elems b) f M = some N → Z = N) ∧ (M.length < L.length → fiS g h L (elems b) f M = none → Z = []) ∧ Ext w w' := by
  intro f
  induction f with
  | zero => intro M vM W0 w _ _ _ _ _ _ _ h1 h2; omega
  | succ f ih =>
  intro M vM W0 w hv hu hL hM hEW hMn hMo hml hfu
  obtain ⟨wb, hwb⟩ : ∃ wb, wb = (w.alloc (.cells #[v] 27)).alloc (.cells #[u] 27) := ⟨_, rfl⟩
  have hE0 : Ext w wb := by rw [hwb]; exact ((Ext.refl _).alloc _).alloc _
  have B0 : Blk wb w.heap.size 27 #[v] := by rw [hwb]; exact (Blk.new _ _ _).alloc _
  have B1 : Blk wb (w.heap.size + 1) 27 #[u] := by rw [hwb]; simpa using Blk.new (w.alloc (.cells #[v] 27)) 27 #[u]
  have b0 : ∀ W, Ext wb W → W.cell? ⟨w.heap.size, 0, none⟩ = some v := fun W hW => (B0.ext hW).cell (i := 0) rfl
  have b1 : ∀ W, Ext wb W → W.cell? ⟨w.heap.size + 1, 0, none⟩ = some u := fun W hW => (B1.ext hW).cell (i := 0) rfl
  have HV := Lib.hid (fun W (hW : Ext wb W) => hv.ext (hE0.trans hW))
  have HU := Lib.hid (fun W (hW : Ext wb W) => hu.ext (hE0.trans hW))
  have hE := Ext.refl wb
  have Hwb := Lib.hid hwb
  clear hv hu hwb B0 B1
  have HL := Lib.hid (fun W (hW : Ext wb W) => hL.ext (hE0.trans hW))
  have HM := Lib.hid (fun W (hW : Ext wb W) => hM.ext (hE0.trans hW))
  have hE0W := hEW.trans hE0
  have hoh := ord_bd Hh.out
  have hog := ord_bd Hg.out
  have hb24 : b < 2 ^ 24 := Nat.lt_of_lt_of_le hb2 (pow_ord Hh.out)
  obtain ⟨aoM, cM, rfl, -⟩ := hM.shape
  obtain ⟨aoL, cL, -, rfl, -, -, -⟩ := hL.op
  rw [castL_len L] at ih
  have Hih := Lib.hid ih
  clear ih hL hM
  rw [castL_len, castL_len]
  rw [castL_len] at HL HM
  by_cases hfull : M.length = L.length
  · have hq : (((M.length : Nat) : Int) == ((L.length : Nat) : Int)) = true := by rw [hfull]; simp
    have hK : isoF g h (castL L) (castL M) = isoK g h L M := iso_list Hg.out Hh.out hLn hMn hLo hMo hfull.symm hl1 (by omega)
    have HK : Hid (fiS g h L (elems b) (f + 1) M = if isoK g h L M then some M else none) := Lib.hid (by unfold fiS; rw [if_pos hfull])
    have cI := fun W (hW : Ext wb W) => sIso_any v u g h _ _ (castL L) (castL M) W (HV.out W hW) (HU.out W hW) (HL.out W hW) (HM.out W hW).ints
    rw [hK] at cI
    have hlt : ¬ M.length < L.length := by omega
    have Hlt := Lib.hid hlt
    clear hK hlt hfull
    cases hk : isoK g h L M
    all_goals
      rw [hk] at cI HK
      clear hk
      go_enter Tryz.func181, Tryz.ntmps181
      go_wp2_with fail
      rw [← Hwb.out]
      refine (cI _ hE).mono ?_
      rintro e w1 ⟨rfl, hE1⟩
      go_wp2_with fail
      rw [HK.out]
    · exact bodyPost_ret (v := .tuple #[.slice aoM M.length cM, .bool false]) (by simp [results, Tryz.results181, go_sem]) rfl ⟨_, M, rfl, (HM.out _ hE1), fun N e => by simp at e, fun e => absurd e Hlt.out, hE0.trans hE1⟩
    · exact bodyPost_ret (v := .tuple #[.slice aoM M.length cM, .bool true]) (by simp [results, Tryz.results181, go_sem]) rfl ⟨_, M, rfl, (HM.out _ hE1), fun N e => by simp at e; exact e, fun e => absurd e Hlt.out, hE0.trans hE1⟩
  · have hq : (((M.length : Nat) : Int) == ((L.length : Nat) : Int)) = false := by rw [beq_eq_false_iff_ne]; omega
    have HF : Hid (fiS g h L (elems b) (f + 1) M = (elems b).findSome? (fun y => if (bset M).testBit y || !kpB g h (L.take (M.length + 1)) (M ++ [y]) then none else fiS g h L (elems b) f (M ++ [y]))) := Lib.hid (by
      conv => lhs; unfold fiS
      rw [if_neg hfull])
    have hml2 : M.length < L.length := by omega
    clear hfull
    go_enter Tryz.func181, Tryz.ntmps181
    go_wp2_with fail
    rw [← Hwb.out]
    refine (l3List_any b hb24 _).mono ?_
    rintro e1 w1 ⟨v1, rfl, hLE, hE1⟩
    obtain ⟨aoE, cE, adrE, rfl, hadrE, hcellE⟩ := hLE.ints.nats
    have hixE := ints_index (c := cE) elI szI hadrE
    have hE24 : ∀ y ∈ elems b, y < ord h := fun y hy => bit_lt hb2 (mem_elems.1 hy).2
    clear hadrE hLE
    obtain ⟨E, hEd⟩ : ∃ E, E = elems b := ⟨_, rfl⟩
    rw [← hEd] at hcellE hixE hE24 HF Hih ⊢
    have hElen : E.length ≤ 24 := by rw [hEd]; exact elems_len b
    have HEd := Lib.hid hEd
    clear hEd
    go_wp2_with fail
    go_loopw [13] (fun iv wr => ∃ k : Nat, k ≤ E.length ∧ iv = .int .i64 k ∧ Ext w1 wr ∧ Hid (∀ k', k' < k → (if (bset M).testBit (nthN E k') || !kpB g h (L.take (M.length + 1)) (M ++ [nthN E k']) then none else fiS g h L E f (M ++ [nthN E k'])) = none)) (fun iv _ => E.length - (intOf iv).toNat)
    case atStart => exact ⟨0, by omega, rfl, Ext.refl _, Lib.hid (by omega)⟩
    case round =>
      clear hE
      obtain ⟨k, hk, rfl, hE, H⟩ := hrel
      have hEw := hE1.trans hE
      by_cases hlt : k < E.length
      · have hyo := hE24 _ (nthN_mem hlt)
        have hck : ∀ W, Ext wr W → W.cell? (adrE k) = some (.int .i64 (nthN E k : Int)) := fun W hW => hcellE k _ hlt (hE.trans hW)
        have hrb : ∀ W, Ext wr W → Ext wb W := fun W hW => hEw.trans hW
        obtain ⟨Y, hY⟩ : ∃ Y, Y = nthN E k := ⟨_, rfl⟩
        have HY := Lib.hid hY
        rw [← hY] at hck hyo
        have hln : (castL M).length + [(Y : Int)].length ≤ 17592186044416 := by rw [castL_len]; simp; omega
        clear hY
        have hEwr := hE
        clear hE
        have hE := Ext.refl wr
        have HMi := Lib.hid (fun W (hW : Ext wr W) => (HM.out W (hrb W hW)).ints)
        have hMl : ((castL M).length : Int) = (M.length : Int) := by rw [castL_len]
        go_upto_region 7 with fail
        go_cut [14] (fun s14 wx => NxP wr M Y s14 wx)
        case first =>
          first | (go_region_held3 (fun W => Ext wr W ∧ W.cell? (adrE k) = some (.int .i64 (Y : Int))) (exact ⟨(by repeat (first | assumption | exact Ext.refl _ | (apply And.left; assumption) | apply Ext.drew | apply Ext.alloc)), hck _ (by repeat (first | assumption | exact Ext.refl _ | (apply And.left; assumption) | apply Ext.drew | apply Ext.alloc))⟩) (first | (have hOq := hOC; refine step_appendsE slI rfl _ _ rfl wr wr _ _ (castL M) [(Y : Int)] (Or.inr (by first | exact hOC | exact hOC.alloc _ | exact (hOC.alloc _).drew)) (Blk.ints1 (T := 3) (by repeat (first | (with_reducible assumption) | (with_reducible exact Blk.new _ _ _) | ((with_reducible refine Blk.new' ?_); simp [go_sem]; done) | (with_reducible apply Blk.alloc) | (with_reducible apply Blk.drew) | (with_reducible refine Blk.ext ?_ hEC)))) (by repeat (first | assumption | exact Ext.refl _ | (apply And.left; assumption) | apply Ext.drew | apply Ext.alloc)) hln rfl rfl ?_; intro vD wD hOD hXD hTD) | (refine step_copy2 slI rfl _ _ rfl _ _ (castL M) rfl rfl (by repeat (first | (with_reducible assumption) | (with_reducible exact Blk.new _ _ _) | ((with_reducible refine Blk.new' ?_); simp [go_sem]; done) | (with_reducible apply Blk.alloc) | (with_reducible apply Blk.drew))) (HMi.out _ (by repeat (first | assumption | exact Ext.refl _ | (apply And.left; assumption) | apply Ext.drew | apply Ext.alloc))) wr (by first | exact Nat.le_refl _ | omega | (simp; omega)) (by repeat (first | assumption | exact Ext.refl _ | (apply And.left; assumption) | apply Ext.drew | apply Ext.alloc)) ?_; intro aoC cC wC hOC hZC hEC; have hXC := Ext.trans (a := wr) (by repeat (first | assumption | exact Ext.refl _ | (apply And.left; assumption) | apply Ext.drew | apply Ext.alloc)) hEC))) | (fail "the region")
          all_goals (go_wp2_with fail; go_meet; exact NxP.of hOD hXD)
        case rest =>
          obtain ⟨aoN, cN, rfl, hON, hEN⟩ := hcut
          have cS := fun W (hW : Ext wc W) => sSetOf_any u h (.slice aoN (M.length + 1) cN) (castL (M ++ [Y])) W (HU.out W (hrb W (hEN.trans hW))) (hON.ext hW).ints
          rw [soB_snoc Hh.out hMn hMo hyo] at cS
          have HN := Lib.hid (fun W (hW : Ext wc W) => hON.ext hW)
          have HnM : Hid ((M ++ [Y]).length = M.length + 1) := Lib.hid (by simp)
          have Hml2 := Lib.hid hml2
          have hmL : (M.length : Int) + 1 ≤ (L.length : Int) := by omega
          have hL24 : ∀ y ∈ L.take (M.length + 1), y < 24 := fun y hy => Nat.lt_of_lt_of_le (hLo y (List.mem_of_mem_take hy)) hog.2
          have hM24 : ∀ y ∈ M ++ [Y], y < 24 := fun y hy => by
            rw [List.mem_append, List.mem_singleton] at hy
            rcases hy with hy | rfl
            · exact Nat.lt_of_lt_of_le (hMo y hy) hoh.2
            · exact Nat.lt_of_lt_of_le hyo hoh.2
          have HMo2 : Hid (∀ y ∈ M ++ [Y], y < ord h) := Lib.hid fun y hy => by
            rw [List.mem_append, List.mem_singleton] at hy
            rcases hy with hy | rfl
            · exact hMo y hy
            · exact hyo
          have Htk : Hid ((L.take (M.length + 1)).length = M.length + 1) := Lib.hid (by rw [List.length_take]; omega)
          clear hON hck hixE
          have hwc : ∀ W, Ext wc W → Ext wb W := fun W hW => hrb W (hEN.trans hW)
          cases ht : (bset M).testBit Y
          · rw [ht] at cS
            simp only [Bool.not_false] at cS
            have Hnd : Hid ((M ++ [Y]).Nodup) := Lib.hid (by
              rw [List.nodup_append]
              refine ⟨hMn, by simp, fun a ha b hb => ?_⟩
              rw [List.mem_singleton] at hb
              subst hb
              rintro rfl
              rw [bset_mem] at ht
              simp [ha] at ht)
            have Ht := Lib.hid ht
            clear ht
            go_wp2_with fail
            refine (cS _ (Ext.refl _)).mono ?_
            rintro e w2 ⟨rfl, hE2⟩
            have hE2b := hwc _ hE2
            have kb0 := fun U => b0 _ (hE2b.trans (lat_ext w2 U))
            have kb1 := fun U => b1 _ (hE2b.trans (lat_ext w2 U))
            have cK := fun U => sKeeps_any v u g h (.slice aoL (M.length + 1) cL) (.slice aoN (M.length + 1) cN) (L.take (M.length + 1)) (M ++ [Y]) (Lat w2 U) (HV.out _ (hE2b.trans (lat_ext w2 U))) (HU.out _ (hE2b.trans (lat_ext w2 U))) Hg Hh (by rw [castL_take]; exact (HL.out _ (hE2b.trans (lat_ext w2 U))).take (by rw [castL_len]; omega)) (HN.out _ (hE2.trans (lat_ext w2 U))).ints hL24 hM24 (by rw [Htk.out, HnM.out]; omega) (by rw [Htk.out]; omega)
            clear cS
            have hcL := (HL.out _ hE2b).cap
            have hsl := fun W => run_cut (P := Tryz.prog) elI szI aoL L.length cL ((M.length : Int) + 1) (by omega) (by omega) W
            have hsa := fun W => run_cutAt (P := Tryz.prog) elI szI aoL L.length cL ((M.length : Int) + 1) (by omega) (by omega) W
            rw [show ((M.length : Int) + 1).toNat = M.length + 1 by omega] at hsl hsa
            clear hcL
            have hE := Ext.refl w2
            cases hk : kpB g h (L.take (M.length + 1)) (M ++ [Y])
            · rw [hk] at cK
              have Hno : Hid ((if (bset M).testBit (nthN E k) || !kpB g h (L.take (M.length + 1)) (M ++ [nthN E k]) then none else fiS g h L E f (M ++ [nthN E k])) = none) := Lib.hid (by rw [← HY.out, hk]; simp)
              clear hk
              go_wp2_with fail
              (refine wp_region_lat (w2) (by kernel_rfl) (by kernel_rfl) hE ?_); (repeat (go_big_quiet_step (first | (go_at_call 213; with_reducible exact Calls.lat (cK _))))); (refine wpQuiet_nil ?_); (intro W hE'); (replace hE := lat_of hE'); (clear hE')
              go_wp2_with fail
              go_roundw
              case rel => exact ⟨k + 1, by omega, by go_num, hEwr.trans (hEN.trans (hE2.trans hE)), Lib.hid fun k' hk' => by by_cases e : k' = k; (subst e; exact Hno.out); exact H.out k' (by omega)⟩
              case measure => (simp [intOf]; omega)
            · rw [hk] at cK
              have Hyes : Hid ((if (bset M).testBit (nthN E k) || !kpB g h (L.take (M.length + 1)) (M ++ [nthN E k]) then none else fiS g h L E f (M ++ [nthN E k])) = fiS g h L E f (M ++ [Y])) := Lib.hid (by rw [← HY.out, hk, Ht.out]; rfl)
              clear hk
              go_wp2_with fail
              (refine wp_region_lat (w2) (by kernel_rfl) (by kernel_rfl) hE ?_); (repeat (go_big_quiet_step (first | (go_at_call 213; with_reducible exact Calls.lat (cK _))))); (refine wpQuiet_nil ?_); (intro W hE'); (replace hE := lat_of hE'); (clear hE')
              have hEq := hE2b.trans hE
              have cR := fun W (hW : Ext w2 W) => Hih.out (M ++ [Y]) (.slice aoN (M.length + 1) cN) W0 W (HV.out _ (hE2b.trans hW)) (HU.out _ (hE2b.trans hW)) (HL.out _ (hE2b.trans hW)) ((HN.out _ (hE2.trans hW)).mono (hE0W.trans hEw)) (hE0W.trans (hE2b.trans hW)) Hnd.out HMo2.out (by rw [HnM.out]; omega) (by rw [HnM.out]; omega)
              cases hr : fiS g h L E f (M ++ [Y]) with
              | none =>
                rw [hr] at cR Hyes
                go_wp2_with fail
                refine (cR _ hE).mono ?_
                rintro e w3 ⟨v3, Z, rfl, hO3, hZ1, hZ2, hE3⟩
                clear hZ1 hZ2 cR hr
                go_wp2_with fail
                go_roundw
                case rel => exact ⟨k + 1, by omega, by go_num, hEwr.trans (hEN.trans (hE2.trans (hE.trans hE3))), Lib.hid fun k' hk' => by by_cases e : k' = k; (subst e; exact Hyes.out); exact H.out k' (by omega)⟩
                case measure => (simp [intOf]; omega)
              | some N =>
                rw [hr] at cR Hyes
                have HFs : Hid (fiS g h L E (f + 1) M = some N) := Lib.hid (by rw [HF.out]; exact findSome_at hlt H.out Hyes.out)
                go_wp2_with fail
                refine (cR _ hE).mono ?_
                rintro e w3 ⟨v3, Z, rfl, hO3, hZ1, hZ2, hE3⟩
                have HZ := Lib.hid (hZ1 N rfl)
                have hEf := hE0.trans (hE2b.trans (hE.trans hE3))
                clear hZ1 hZ2 cR hr
                go_wp2_with fail
                rw [← HEd.out, HFs.out]
                exact bodyPost_ret (v := .tuple #[v3, .bool true]) (by simp [results, Tryz.results181, go_sem]) rfl ⟨_, Z, rfl, hO3, fun N' e => by cases e; exact HZ.out, fun _ e => by simp at e, hEf⟩
          · rw [ht] at cS
            simp only [Bool.not_true] at cS
            have Hno : Hid ((if (bset M).testBit (nthN E k) || !kpB g h (L.take (M.length + 1)) (M ++ [nthN E k]) then none else fiS g h L E f (M ++ [nthN E k])) = none) := Lib.hid (by rw [← HY.out, ht]; rfl)
            clear ht
            go_wp2_with fail
            refine (cS _ (Ext.refl _)).mono ?_
            rintro e w2 ⟨rfl, hE2⟩
            have hE := Ext.refl w2
            go_wp2_with fail
            (refine wp_region_lat (w2) (by kernel_rfl) (by kernel_rfl) hE ?_); (repeat (go_big_quiet_step (first | (fail "no call")))); (refine wpQuiet_nil ?_); (intro W hE'); (replace hE := lat_of hE'); (clear hE')
            go_wp2_with fail
            go_roundw
            case rel => exact ⟨k + 1, by omega, by go_num, hEwr.trans (hEN.trans (hE2.trans hE)), Lib.hid fun k' hk' => by by_cases e : k' = k; (subst e; exact Hno.out); exact H.out k' (by omega)⟩
            case measure => (simp [intOf]; omega)
      · have hkl : k = E.length := by omega
        have HFn : Hid (fiS g h L E (f + 1) M = none) := Lib.hid (by rw [HF.out]; exact findSome_none fun k' hk' => H.out k' (by omega))
        have hEb := hE1.trans hE
        have hOe : Own 3 W0 (wr.alloc (.cells #[] 3)) (.slice (some ⟨wr.heap.size, 0, none⟩) 0 0) (castL []) := (own_made (TI := 3) (n := 0) (by omega) hE (castL []) rfl).mono (hE0W.trans hE1)
        have hEe := (hE0.trans hEb).alloc (.cells #[] 3)
        clear hkl
        go_wp2_with fail
        rw [← HEd.out, HFn.out]
        exact bodyPost_ret (v := .tuple #[.slice (some ⟨wr.heap.size, 0, none⟩) 0 0, .bool false]) (by simp [results, Tryz.results181, go_sem]) rfl ⟨_, [], rfl, hOe, fun N e => by simp at e, fun _ _ => rfl, hEe⟩
end Go.Zz

/- Two results of which the second alone is told. -/
namespace Go.Zz
open Go.RowKit
/-- e gives two values, the second of which is b -/
def TB (b : Bool) (e : Ending) : Prop := ∃ v, e = .returned (.tuple #[v, .bool b])
theorem TB.mk (v : Value) (b : Bool) : TB b (.returned (.tuple #[v, .bool b])) := ⟨v, rfl⟩
end Go.Zz

/- Taking the terms of a part out: the reference. -/
namespace Go.Zz
open Go.RowKit Go.Proofs
set_option maxHeartbeats 2000000
set_option maxRecDepth 8000

/-- l[k:] -/
def tailV (ao : Option Addr) (n c k : Nat) : Value := .slice (if c = k then ao else ao.map (·.add k)) (n - k) (c - k)
theorem run_cutFrom {P : Program} {t : TypeId} (ht : P.underlying t = some (.slice (P.elem t))) (hs : ∀ w, (sizeOf (P.elem t)).run P w = .ok 1 w) (ao : Option Addr) (n c : Nat) (k : Int) (k0 : 0 ≤ k) (hk : k ≤ n) (W : World) :
    (Instr.slice t (.slice ao n c) (some (.int .i64 k)) none none).run P W = .ok (tailV ao n c k.toNat) W := by
  rw [run_slice_l (ht := ht) (h0 := k0) (h1 := hk), hs]
  simp [Result.andThen, sliced, tailV]
theorem run_cutFromAt {P : Program} {t : TypeId} (ht : P.underlying t = some (.slice (P.elem t))) (hs : ∀ w, (sizeOf (P.elem t)).run P w = .ok 1 w) (ao : Option Addr) (n c : Nat) (k : Int) (k0 : 0 ≤ k) (hk : k ≤ n) (W : World) :
    (Instr.sliceAt t (.slice ao n c) (some (.int .i64 k)) none none).run P W = .ok (tailV ao n c k.toNat) W := by
  rw [run_sliceAt_slice (h := ht), run_cutFrom ht hs ao n c k k0 hk]
theorem Ints.drop {w : World} {ao : Option Addr} {n c : Nat} {l : List Int} (h : Ints w (.slice ao n c) l) {k : Nat} (hk : k ≤ l.length) : Ints w (tailV ao n c k) (l.drop k) := by
  obtain ⟨ao', c', hv, h1, h2, h3⟩ := h
  simp only [Value.slice.injEq] at hv
  obtain ⟨rfl, rfl, rfl⟩ := hv
  have hl : (l.drop k).length = l.length - k := List.length_drop
  refine ⟨_, c - k, by rw [hl]; rfl, by rw [hl]; omega, by rw [hl]; omega, fun i hi => ?_⟩
  rw [hl] at hi
  obtain ⟨a, rfl, hc⟩ := h3 (k + i) (by omega)
  refine ⟨a.add k, by rw [if_neg (by omega)]; rfl, ?_⟩
  rw [show (a.add k).add i = a.add (k + i) by unfold Addr.add; by_cases h1 : k = 0 <;> by_cases h2 : i = 0 <;> simp [h1, h2, Nat.add_assoc], hc]
  simp [nth, List.getD, List.getElem?_drop]
/-- the list without one number, in memory of the call's own -/
def MiP (w0 : World) (T : List Int) (s : Value) (wx : World) : Prop := ∃ ao c, s = .slice ao T.length c ∧ Own 3 w0 wx (.slice ao T.length c) T ∧ Ext w0 wx
theorem MiP.of {w0 : World} {A B : List Int} {s : Value} {wx : World} (h : OwnE 3 w0 w0 wx s (A ++ B)) (hE : Ext w0 wx) : MiP w0 (A ++ B) s wx := by
  have h2 := h.own (Ext.refl w0)
  obtain ⟨ao, c, rfl, -⟩ := h2.shape
  exact ⟨ao, c, rfl, h2, hE⟩
theorem l19Minus_any (u1 u2 : Value) (T P : List Int) (w : World) (h1 : Ints w u1 T) (h2 : Ints w u2 P) :
    Calls Tryz.prog 118 #[u1, u2] w fun e w' => TB (subM T P) e ∧ Ext w w' := by
  obtain ⟨ao2, c2, adrP, rfl, hlenP, hadrP, hcellP⟩ := h2.op
  have hixP := ints_index (c := c2) elI szI hadrP
  have hlenT : T.length ≤ 17592186044416 := by obtain ⟨_, _, _, _, h', _⟩ := h1; exact h'
  have hO : Own 3 w (w.alloc (.cells #[] 3)) (.slice (some ⟨w.heap.size, 0, none⟩) 0 0) [] := own_made (TI := 3) (n := 0) (by omega) (Ext.refl w) [] rfl
  have hEl := (Ext.refl w).alloc (.cells #[] 3)
  have hI := h1.ext hEl
  clear hadrP h2 h1
  go_enter Tryz.func118, Tryz.ntmps118
  go_wp2_with (at_builtin; refine wp_appends slI rfl _ _ rfl w _ _ _ _ _ hO hI hEl (by simpa using hlenT) rfl rfl ?_; intro v1 w1 hO1 hE1; rw [List.nil_append] at hO1; obtain ⟨ao1, c1, rfl, -⟩ := hO1.shape)
  have HO1 := Lib.hid hO1
  have HE1 := Lib.hid hE1
  clear hO hEl hI hO1 hE1
  go_loopw [6, 7] (fun so si wr => ∃ (k : Nat) (T' : List Int) (ao : Option Addr) (c : Nat), k ≤ P.length ∧ si = .int .i64 k ∧ so = .slice ao T'.length c ∧ Own 3 w wr (.slice ao T'.length c) T' ∧ T'.length ≤ T.length ∧ Hid (subM T P = subM T' (P.drop k)) ∧ Ext w wr) (fun _ si _ => P.length - (intOf si).toNat)
  case atStart => exact ⟨0, T, ao1, c1, by omega, rfl, rfl, HO1.out, Nat.le_refl _, Lib.hid rfl, HE1.out⟩
  case round =>
    clear HO1 HE1
    obtain ⟨k, T', ao, c, hk, rfl, rfl, hOr, hTl, HS, hEr⟩ := hrel
    have HO := Lib.hid (fun W (hW : Ext wr W) => hOr.ext hW)
    by_cases hlt : k < P.length
    · obtain ⟨aoT, cT, adrT, hvT, hlT, hadrT, hcellT⟩ := hOr.ints.op
      simp only [Value.slice.injEq] at hvT
      obtain ⟨rfl, -, rfl⟩ := hvT
      have hixT := ints_index (c := c) elI szI hadrT
      have hckP := fun W (hW : Ext wr W) => hcellP k W hlt (hEr.trans hW)
      obtain ⟨Y, hY⟩ : ∃ Y, Y = nth P k := ⟨_, rfl⟩
      have Hdrop : Hid (P.drop k = Y :: P.drop (k + 1)) := Lib.hid (by
        rw [hY, List.drop_eq_getElem_cons hlt]; simp [nth, List.getD, hlt])
      have hcap := hOr.ints.cap
      rw [← hY] at hckP
      have HEr := Lib.hid hEr
      have HcP := Lib.hid hcellP
      clear hadrT hOr hY hcellP
      have hE := Ext.refl wr
      go_wp2_with fail
      go_loopw [8, 9] (fun sa sj wq => ∃ j : Nat, j ≤ T'.length ∧ sj = .int .i64 j ∧ sa = .int .i64 (lastTo T' Y j) ∧ Ext wr wq) (fun _ sj _ => T'.length - (intOf sj).toNat)
      case atStart => exact ⟨0, by omega, rfl, rfl, hE⟩
      case round =>
        clear hE
        rename World => wq
        obtain ⟨j, hj, rfl, rfl, hE⟩ := hrel
        by_cases hlj : j < T'.length
        · have hk1 := fun U => hcellT j _ hlj (hE.trans (lat_ext wq U))
          have hk2 := fun U => hckP _ (hE.trans (lat_ext wq U))
          have hE1 := hE
          clear hE
          have hE := Ext.refl wq
          by_cases e : nth T' j = Y
          · have Hn := Lib.hid (lastTo_yes e)
            have hq : (nth T' j == Y) = true := by rw [e]; simp
            clear e
            go_wp2_with fail
            (refine wp_region_lat (wq) (by kernel_rfl) (by kernel_rfl) hE ?_); (repeat (go_big_quiet_step (first | (fail "no call")))); (refine wpQuiet_nil ?_); (intro W hE'); (replace hE := lat_of hE'); (clear hE')
            go_wp2_with fail
            go_roundw
            case rel => exact ⟨j + 1, by omega, by go_num, by rw [Hn.out], hE1.trans hE⟩
            case measure => (simp [intOf]; omega)
          · have Hn := Lib.hid (lastTo_no e)
            have hq : (nth T' j == Y) = false := by rw [beq_eq_false_iff_ne]; exact e
            clear e
            go_wp2_with fail
            (refine wp_region_lat (wq) (by kernel_rfl) (by kernel_rfl) hE ?_); (repeat (go_big_quiet_step (first | (fail "no call")))); (refine wpQuiet_nil ?_); (intro W hE'); (replace hE := lat_of hE'); (clear hE')
            go_wp2_with fail
            go_roundw
            case rel => exact ⟨j + 1, by omega, by go_num, by rw [Hn.out], hE1.trans hE⟩
            case measure => (simp [intOf]; omega)
        · have hjl : j = T'.length := by omega
          subst hjl
          clear hlj hj
          by_cases hneg : lastTo T' Y T'.length < 0
          · have Hs : Hid (subM T P = false) := Lib.hid (by rw [HS.out, Hdrop.out, subM_no (last_no hneg)])
            go_wp2_with fail
            have hEf := HEr.out.trans hE
            exact bodyPost_ret (v := .tuple #[.slice (some ⟨wq.heap.size, 0, none⟩) 0 0, .bool false]) (by simp [results, Tryz.results118, go_sem]) rfl ⟨by rw [Hs.out]; exact TB.mk _ _, hEf.alloc _⟩
          · obtain ⟨a, ea, ha, hd, hm⟩ := last_yes hneg
            have Hs : Hid (subM T P = subM (T'.take a ++ T'.drop (a + 1)) (P.drop (k + 1))) := Lib.hid (by rw [HS.out, Hdrop.out, subM_yes hm, hd])
            have Hlen : Hid ((T'.take a ++ T'.drop (a + 1)).length ≤ T.length) := Lib.hid (by rw [List.length_append, List.length_take, List.length_drop]; omega)
            have hln : (T'.take a).length + (T'.drop (a + 1)).length ≤ 17592186044416 := by rw [List.length_take, List.length_drop]; omega
            rw [ea]
            have hna : ¬ ((a : Int) < 0) := by omega
            have hsl := fun W => run_cut (P := Tryz.prog) elI szI ao T'.length c (a : Int) (by omega) (by omega) W
            have hsa := fun W => run_cutAt (P := Tryz.prog) elI szI ao T'.length c (a : Int) (by omega) (by omega) W
            have hfl := fun W => run_cutFrom (P := Tryz.prog) elI szI ao T'.length c ((a : Int) + 1) (by omega) (by omega) W
            have hfa := fun W => run_cutFromAt (P := Tryz.prog) elI szI ao T'.length c ((a : Int) + 1) (by omega) (by omega) W
            rw [show ((a : Int)).toNat = a by omega] at hsl hsa
            rw [show ((a : Int) + 1).toNat = a + 1 by omega] at hfl hfa
            have hw1 : IntKind.i64.wrap ((a : Int) + 1) = (a : Int) + 1 := IntWalk.i64_in _ (by omega)
            have HA := Lib.hid (fun W (hW : Ext wq W) => (HO.out W (hE.trans hW)).ints.take (k := a) (by omega))
            have HB := Lib.hid (fun W (hW : Ext wq W) => (HO.out W (hE.trans hW)).ints.drop (k := a + 1) (by omega))
            have hEq := HEr.out.trans hE
            clear hneg ea hd hm hcellT hckP hixT hixP
            have hE1 := hE
            clear hE
            have hE := Ext.refl wq
            go_wp2_with fail
            first | (go_region_held3 (fun W => Ext wq W) (exact (by repeat (first | assumption | exact Ext.refl _ | (apply And.left; assumption) | apply Ext.drew | apply Ext.alloc))) (first | (have hOq := hOC; refine step_appendsE slI rfl _ _ rfl wq wq _ _ (T'.take a) (T'.drop (a + 1)) (Or.inr (by first | exact hOC | exact hOC.alloc _ | exact (hOC.alloc _).drew)) (HB.out _ (by repeat (first | assumption | exact Ext.refl _ | (apply And.left; assumption) | apply Ext.drew | apply Ext.alloc))) (by repeat (first | assumption | exact Ext.refl _ | (apply And.left; assumption) | apply Ext.drew | apply Ext.alloc)) hln rfl rfl ?_; intro vD wD hOD hXD hTD) | (refine step_copy2 slI rfl _ _ rfl _ _ (T'.take a) rfl rfl (by repeat (first | (with_reducible assumption) | (with_reducible exact Blk.new _ _ _) | ((with_reducible refine Blk.new' ?_); simp [go_sem]; done) | (with_reducible apply Blk.alloc) | (with_reducible apply Blk.drew))) (HA.out _ (by repeat (first | assumption | exact Ext.refl _ | (apply And.left; assumption) | apply Ext.drew | apply Ext.alloc))) wq (by first | exact Nat.le_refl _ | omega | (simp; omega)) (by repeat (first | assumption | exact Ext.refl _ | (apply And.left; assumption) | apply Ext.drew | apply Ext.alloc)) ?_; intro aoC cC wC hOC hZC hEC; have hXC := Ext.trans (a := wq) (by repeat (first | assumption | exact Ext.refl _ | (apply And.left; assumption) | apply Ext.drew | apply Ext.alloc)) hEC))) | (fail "the region")
            all_goals
              obtain ⟨aoN, cN, rfl, hON, hEN⟩ := MiP.of hOD hXD
              go_wp2_with fail
              go_roundw
              case rel => exact ⟨k + 1, _, aoN, cN, by omega, by go_num, rfl, hON.mono hEq, Hlen.out, Hs, hEq.trans hEN⟩
              case measure => (simp [intOf]; omega)
    · have hkl : k = P.length := by omega
      have Hs : Hid (subM T P = true) := Lib.hid (by rw [HS.out, hkl, List.drop_length]; rfl)
      go_wp2_with fail
      exact bodyPost_ret (v := .tuple #[.slice ao T'.length c, .bool true]) (by simp [results, Tryz.results118, go_sem]) rfl ⟨by rw [Hs.out]; exact TB.mk _ _, hEr⟩
end Go.Zz

/- Atoms: l19Minimal, IsAtom of the reference. -/
namespace Go.Zz
open Go.RowKit Go.Proofs
set_option maxHeartbeats 2000000
set_option maxRecDepth 8000

theorem castL_exI (X : List Nat) (i : Nat) : (castL X).take i ++ (castL X).drop (i + 1) = castL (exI X i) := by
  unfold exI castL; simp [List.map_take, List.map_drop]
theorem sMinimal_any (v u : Value) (l : List Int) (X : List Nat) (w : World) (h : Ints w v l) (hu : Ints w u (castL X)) (Hgr : Hid (isGrp l = true)) (hX : ∀ x ∈ X, x < ord l) (hl12 : X.length ≤ 100) :
    Calls Tryz.prog 147 #[.agg #[v], u] w fun e w' => e = .returned (.bool (mnB l X)) ∧ Ext w w' := by
  obtain ⟨wb, hwb⟩ : ∃ wb, wb = w.alloc (.cells #[v] 27) := ⟨_, rfl⟩
  have hE0 := (Ext.refl w).alloc (.cells #[v] 27)
  have hb := box_cell w v 27
  rw [← hwb] at hE0 hb
  have hg : ∀ W, Ext wb W → Ints W v l := fun W hW => h.ext (hE0.trans hW)
  have hE := Ext.refl wb
  have Hsz : Hid (w.heap.size + 1 = wb.heap.size) := Lib.hid (by rw [hwb]; simp [go_sem])
  have Hwb := Lib.hid hwb
  clear hwb h
  have hob := ord_bd Hgr.out
  have HU := Lib.hid (fun W (hW : Ext wb W) => hu.ext (hE0.trans hW))
  obtain ⟨ao, c, adr, rfl, hadr, hcell⟩ := hu.nats
  have hcap : X.length ≤ c := by
    obtain ⟨_, _, hv, hc, _⟩ := hu
    rw [castL_len] at hv hc
    simp only [Value.slice.injEq] at hv
    omega
  have HX := Lib.hid (fun i x (hx : x ∈ exI X i) => hX x ((exI_sub X i).subset hx))
  clear hadr hcell hu hX
  go_enter Tryz.func147, Tryz.ntmps147
  go_wp2_with fail
  rw [← Hwb.out]
  go_loopw [5] (fun si wr => ∃ i : Nat, i ≤ X.length ∧ si = .int .i64 i ∧ Hid (∀ j, j < i → (sbs l (exI X j)).testBit 0 = false) ∧ Ext wb wr) (fun si _ => X.length - (intOf si).toNat)
  case atStart => exact ⟨0, by omega, rfl, Lib.hid (by omega), hE⟩
  case round =>
    clear hE
    obtain ⟨i, hi, rfl, HN, hE⟩ := hrel
    by_cases hit : i < X.length
    · have hsl := fun W => run_cut (P := Tryz.prog) elI szI ao X.length c (i : Int) (by omega) (by omega) W
      have hsa := fun W => run_cutAt (P := Tryz.prog) elI szI ao X.length c (i : Int) (by omega) (by omega) W
      have hfl := fun W => run_cutFrom (P := Tryz.prog) elI szI ao X.length c ((i : Int) + 1) (by omega) (by omega) W
      have hfa := fun W => run_cutFromAt (P := Tryz.prog) elI szI ao X.length c ((i : Int) + 1) (by omega) (by omega) W
      rw [show ((i : Int)).toNat = i by omega] at hsl hsa
      rw [show ((i : Int) + 1).toNat = i + 1 by omega] at hfl hfa
      have hw1 : IntKind.i64.wrap ((i : Int) + 1) = (i : Int) + 1 := IntWalk.i64_in _ (by omega)
      have hcl := castL_len X
      have HA := Lib.hid (fun W (hW : Ext wr W) => (HU.out W (hE.trans hW)).take (k := i) (by omega))
      have HB := Lib.hid (fun W (hW : Ext wr W) => (HU.out W (hE.trans hW)).drop (k := i + 1) (by omega))
      have hln : ((castL X).take i).length + ((castL X).drop (i + 1)).length ≤ 17592186044416 := by rw [List.length_take, List.length_drop]; omega
      have Heq := Lib.hid (castL_exI X i)
      obtain ⟨A, hA⟩ : ∃ A, A = (castL X).take i := ⟨_, rfl⟩
      obtain ⟨B, hB⟩ : ∃ B, B = (castL X).drop (i + 1) := ⟨_, rfl⟩
      rw [← hA] at HA hln Heq
      rw [← hB] at HB hln Heq
      have hXe := HX.out i
      obtain ⟨Y, hY⟩ : ∃ Y, Y = exI X i := ⟨_, rfl⟩
      rw [← hY] at Heq hXe
      have HY := Lib.hid hY
      have cS := fun W vy (hW : Ext wb W) (hy : Ints W vy (castL Y)) => l16Subsums_any v vy l Y W (hg W hW) hy Hgr (Lib.hid fun x hx => by have := hXe x hx; omega)
      have hS24 := sbs_bd Hgr.out Y (fun x hx => by have := hXe x hx; omega)
      obtain ⟨S, hS⟩ : ∃ S, S = sbs l Y := ⟨_, rfl⟩
      simp only [← hS] at cS
      rw [← hS] at hS24
      have HS := Lib.hid hS
      clear hA hB hcl hY hS hXe
      have h1 := iand_one (a := S) (by omega)
      have hEb := hE
      clear hE
      have hE := Ext.refl wr
      go_wp2_with fail
      first | (go_region_held3 (fun W => Ext wr W) (exact (by repeat (first | assumption | exact Ext.refl _ | (apply And.left; assumption) | apply Ext.drew | apply Ext.alloc))) (first | (have hOq := hOC; refine step_appendsE slI rfl _ _ rfl wr wr _ _ A B (Or.inr (by first | exact hOC | exact hOC.alloc _ | exact (hOC.alloc _).drew)) (HB.out _ (by repeat (first | assumption | exact Ext.refl _ | (apply And.left; assumption) | apply Ext.drew | apply Ext.alloc))) (by repeat (first | assumption | exact Ext.refl _ | (apply And.left; assumption) | apply Ext.drew | apply Ext.alloc)) hln rfl rfl ?_; intro vD wD hOD hXD hTD) | (refine step_copy2 slI rfl _ _ rfl _ _ A rfl rfl (by repeat (first | (with_reducible assumption) | (with_reducible exact Blk.new _ _ _) | ((with_reducible refine Blk.new' ?_); simp [go_sem]; done) | (with_reducible apply Blk.alloc) | (with_reducible apply Blk.drew))) (HA.out _ (by repeat (first | assumption | exact Ext.refl _ | (apply And.left; assumption) | apply Ext.drew | apply Ext.alloc))) wr (by first | exact Nat.le_refl _ | omega | (simp; omega)) (by repeat (first | assumption | exact Ext.refl _ | (apply And.left; assumption) | apply Ext.drew | apply Ext.alloc)) ?_; intro aoC cC wC hOC hZC hEC; have hXC := Ext.trans (a := wr) (by repeat (first | assumption | exact Ext.refl _ | (apply And.left; assumption) | apply Ext.drew | apply Ext.alloc)) hEC))) | (fail "the region")
      all_goals
        obtain ⟨aoN, cN, rfl, hON, hEN⟩ := MiP.of hOD hXD
        have hEn := hEb.trans hEN
        have hbn := hb _ hEn
        generalize (A ++ B).length = nN at hON ⊢
        have hIn : Ints wD (.slice aoN nN cN) (castL Y) := by rw [← Heq.out]; exact hON.ints
        cases ht : S.testBit 0
        · have hq : (((S % 2 : Nat) : Int) == 1) = false := by rw [Nat.testBit_zero] at ht; rw [beq_eq_false_iff_ne]; have := of_decide_eq_false ht; omega
          have Ht := Lib.hid ht
          clear ht
          go_wp2_with (go_at_call 55; refine (cS _ _ hEn hIn).mono ?_; rintro e w4 ⟨rfl, hE4⟩)
          go_roundw
          case rel => exact ⟨i + 1, by omega, by go_num, Lib.hid fun j hj => by by_cases e : j = i; (rw [e, ← HY.out, ← HS.out]; exact Ht.out); exact HN.out j (by omega), hEn.trans hE4⟩
          case measure => (simp [intOf]; omega)
        · have hq : (((S % 2 : Nat) : Int) == 1) = true := by rw [Nat.testBit_zero] at ht; rw [beq_iff_eq]; have := of_decide_eq_true ht; omega
          have Hk : Hid (mnB l X = false) := Lib.hid (by
            rw [← Bool.not_eq_true, mnB_iff]; intro H; have := H i hit; rw [← HY.out, ← HS.out, ht] at this; cases this)
          clear ht
          go_wp2_with (go_at_call 55; refine (cS _ _ hEn hIn).mono ?_; rintro e w4 ⟨rfl, hE4⟩)
          go_ret
          exact ⟨ret_bool Hk.out.symm, hE0.trans (hEn.trans hE4)⟩
    · have hil : i = X.length := by omega
      have Hk : Hid (mnB l X = true) := Lib.hid (mnB_iff.2 fun j hj => HN.out j (by omega))
      go_wp2_with fail
      go_ret
      exact ⟨ret_bool Hk.out.symm, hE0.trans hE⟩
theorem sIsAtom_any (v u : Value) (l xs : List Int) (w : World) (h : Ints w v l) (hu : Ints w u xs) :
    Calls Tryz.prog 62 #[.agg #[v], u] w fun e w' => e = .returned (.bool (atmB l xs)) ∧ Ext w w' := by
  obtain ⟨wb, hwb⟩ : ∃ wb, wb = w.alloc (.cells #[v] 27) := ⟨_, rfl⟩
  have hE0 := (Ext.refl w).alloc (.cells #[v] 27)
  have hb := box_cell w v 27
  rw [← hwb] at hE0 hb
  have hg : ∀ W, Ext wb W → Ints W v l := fun W hW => h.ext (hE0.trans hW)
  have hE := Ext.refl wb
  have Hsz : Hid (w.heap.size + 1 = wb.heap.size) := Lib.hid (by rw [hwb]; simp [go_sem])
  have Hwb := Lib.hid hwb
  clear hwb h
  have HU := Lib.hid (fun W (hW : Ext wb W) => hu.ext (hE0.trans hW))
  have cZ := fun W (hW : Ext wb W) => sIsZeroSum_any v u l xs W (hg W hW) (HU.out W hW)
  have hbx := fun U => hb _ (lat_ext wb U)
  cases hz : zsB l xs
  · have Hs := Lib.hid (atmB_no hz)
    rw [hz] at cZ
    obtain ⟨ao, c, adr, rfl, -, -⟩ := hu.op
    clear hz
    go_enter Tryz.func62, Tryz.ntmps62
    go_wp2_with fail
    rw [← Hwb.out]
    (refine wp_region_lat (wb) (by kernel_rfl) (by kernel_rfl) hE ?_); (repeat (go_big_quiet_step (first | (go_at_call 58; with_reducible exact Calls.lat (cZ _ (lat_ext wb _)))))); (refine wpQuiet_nil ?_); (intro W hE'); (replace hE := lat_of hE'); (clear hE')
    go_wp2_with fail
    go_ret
    exact ⟨ret_bool Hs.out.symm, hE0.trans hE⟩
  · rw [hz] at cZ
    have hseq : seqB l xs = true := by
      cases hs : seqB l xs
      · rw [zsB_no hs] at hz; cases hz
      · rfl
    obtain ⟨X, rfl, hXo, h12, hgr, hall⟩ := seqB_nat hseq
    by_cases h0 : X = []
    · subst h0
      have Hs : Hid (atmB l (castL []) = false) := Lib.hid (atmB_nil l)
      obtain ⟨ao, c, adr, rfl, -, -⟩ := hu.nats
      clear hz
      go_enter Tryz.func62, Tryz.ntmps62
      go_wp2_with fail
      rw [← Hwb.out]
      (refine wp_region_lat (wb) (by kernel_rfl) (by kernel_rfl) hE ?_); (repeat (go_big_quiet_step (first | (go_at_call 58; with_reducible exact Calls.lat (cZ _ (lat_ext wb _)))))); (refine wpQuiet_nil ?_); (intro W hE'); (replace hE := lat_of hE'); (clear hE')
      go_wp2_with fail
      go_ret
      exact ⟨ret_bool Hs.out.symm, hE0.trans hE⟩
    · have Hs : Hid (atmB l (castL X) = mnB l X) := Lib.hid (atmB_yes hz h0)
      have Hgr := Lib.hid hgr
      have hl0 : 0 < X.length := List.length_pos_iff.2 h0
      have hcap : ∀ {W : World} {ao : Option Addr} {c : Nat}, Ints W (.slice ao X.length c) (castL X) → X.length ≤ c := fun hI => by
        obtain ⟨_, _, hv, hc, _⟩ := hI
        rw [castL_len] at hv hc
        simp only [Value.slice.injEq] at hv
        omega
      obtain ⟨ao, c, adr, rfl, -, -⟩ := hu.nats
      have hc := hcap hu
      have hsl := fun W => run_cut (P := Tryz.prog) elI szI ao X.length c ((X.length : Int) - 1) (by omega) (by omega) W
      have hsa := fun W => run_cutAt (P := Tryz.prog) elI szI ao X.length c ((X.length : Int) - 1) (by omega) (by omega) W
      rw [show ((X.length : Int) - 1).toNat = X.length - 1 by omega] at hsl hsa
      have hltI : (0 : Int) < (X.length : Int) := by omega
      have cM := fun W (hW : Ext wb W) => sMinimal_any v _ l X W (hg W hW) (HU.out W hW) Hgr hXo (by omega)
      have HT := Lib.hid (fun W (hW : Ext wb W) => (HU.out W hW).take (k := X.length - 1) (by rw [castL_len]; omega))
      have hct : (castL X).take (X.length - 1) = castL (X.take (X.length - 1)) := by unfold castL; rw [List.map_take]
      rw [hct] at HT
      have hY24 : ∀ x ∈ X.take (X.length - 1), x < 24 := fun x hx => hall x (List.mem_of_mem_take hx)
      have cS := fun W (hW : Ext wb W) => l16Subsums_any v _ l (X.take (X.length - 1)) W (hg W hW) (HT.out W hW) Hgr (Lib.hid hY24)
      have hS24 := sbs_bd Hgr.out (X.take (X.length - 1)) hY24
      have Hml := Lib.hid (fun h => mn_last (l := l) h0 h)
      obtain ⟨S, hS⟩ : ∃ S, S = sbs l (X.take (X.length - 1)) := ⟨_, rfl⟩
      simp only [← hS] at cS
      rw [← hS] at hS24 Hml
      clear hS hct hu hz hall hgr h0 hseq hXo hcap hY24 HT
      have h1 := iand_one (a := S) (by omega)
      cases ht : S.testBit 0
      · have hq : (((S % 2 : Nat) : Int) == 0) = true := by rw [bit0, ht]; rfl
        have hq2 : ((S : Int) % 2 == 0) = true := hq
        clear ht
        go_enter Tryz.func62, Tryz.ntmps62
        go_wp2_with fail
        rw [← Hwb.out]
        (refine wp_region_lat (wb) (by kernel_rfl) (by kernel_rfl) hE ?_); (repeat (go_big_quiet_step (first | (go_at_call 58; with_reducible exact Calls.lat (cZ _ (lat_ext wb _))) | (go_at_call 55; with_reducible exact Calls.lat (cS _ (lat_ext wb _))) | (go_at_call 147; with_reducible exact Calls.lat (cM _ (lat_ext wb _)))))); (refine wpQuiet_nil ?_); (intro W hE'); (replace hE := lat_of hE'); (clear hE')
        go_wp2_with fail
        go_ret
        exact ⟨ret_bool Hs.out.symm, hE0.trans hE⟩
      · have hq : (((S % 2 : Nat) : Int) == 0) = false := by rw [bit0, ht]; rfl
        have hq2 : ((S : Int) % 2 == 0) = false := hq
        have Hk := Lib.hid (Hml.out ht)
        clear ht
        go_enter Tryz.func62, Tryz.ntmps62
        go_wp2_with fail
        rw [← Hwb.out]
        (refine wp_region_lat (wb) (by kernel_rfl) (by kernel_rfl) hE ?_); (repeat (go_big_quiet_step (first | (go_at_call 58; with_reducible exact Calls.lat (cZ _ (lat_ext wb _))) | (go_at_call 55; with_reducible exact Calls.lat (cS _ (lat_ext wb _))) | (go_at_call 147; with_reducible exact Calls.lat (cM _ (lat_ext wb _)))))); (refine wpQuiet_nil ?_); (intro W hE'); (replace hE := lat_of hE'); (clear hE')
        go_wp2_with fail
        go_ret
        exact ⟨ret_bool (by rw [Hs.out, Hk.out]), hE0.trans hE⟩
end Go.Zz

/- Longest sequences no part of which has the sum zero: the reference. -/
namespace Go.Zz
open Go.RowKit Go.Proofs
set_option maxHeartbeats 2000000
set_option maxRecDepth 8000

/-- a list in memory, behind a region that draws -/
def LiP (w0 : World) (Y : List Nat) (s : Value) (wx : World) : Prop := ∃ ao c, s = .slice ao Y.length c ∧ Ints wx (.slice ao Y.length c) (castL Y) ∧ Ext w0 wx
end Go.Zz
