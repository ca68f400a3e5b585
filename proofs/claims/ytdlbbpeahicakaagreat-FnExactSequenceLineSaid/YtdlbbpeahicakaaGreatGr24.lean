/- Factorizations: the program's closure that tries atoms, whole. -/
import Derived.Test.YtdlbbpeahicakaaGreatGr23
namespace Go.Zz
open Go.RowKit Go.Proofs
set_option maxHeartbeats 4000000
set_option maxRecDepth 8000
set_option linter.unusedSimpArgs false

theorem Fr.to2 {b g : Nat} {o : Option Nat} {w w' : World} (h : Fr b o w w') : Fr2 b g o w w' := ⟨h.os, h.tape, h.output, h.size, fun k hk hb _ ho => h.block k hk hb ho⟩
/-- u reads as a, in a block of its own kind that is not g, or a is empty -/
def RowY (g : Nat) (w : World) (u : Value) (a : List Nat) : Prop := (a = [] ∧ ∃ ao c, u = .slice ao 0 c) ∨ (RowB w u a ∧ u.ownBlock ≠ some g)
theorem RowY.e {g : Nat} {w : World} {u : Value} {a : List Nat} (h : RowY g w u a) : RowE w u a := by
  rcases h with h | h
  · exact Or.inl h
  · exact Or.inr h.1
theorem blkT_ne {w : World} {b c : Nat} {T T' : TypeId} {cs cs' : Array Value} (h : Blk w b T cs) (k : Blk w c T' cs') (hT : T ≠ T') : b ≠ c := fun e => by
  subst e
  have h' : w.heap[b]? = some (.cells cs T (0, 0)) := h
  have k' : w.heap[b]? = some (.cells cs' T' (0, 0)) := k
  rw [h'] at k'
  simp at k'
  exact hT k'.2
theorem RowY.fr2 {w0 w w' : World} {u v : Value} {a : List Nat} {b g : Nat} {cs : Array Value} {A : List Nat} (h : RowY g w u a) (hB : Blk w b 75 cs) (hO : OwnF w0 w v A) (hF : Fr2 b g v.ownBlock w w') : RowY g w' u a := by
  rcases h with h | ⟨⟨h0, k, cap, cs', h1, h2, h3, h4⟩, h5⟩
  · exact Or.inl h
  · refine Or.inr ⟨⟨h0, k, cap, cs', h1, h2, hF.blk h3 (blkT_ne h3 hB (by decide)) (fun e => h5 (by rw [h1, e]; rfl)) (hO.not h3 (by decide)), h4⟩, h5⟩
theorem RowY.ext {g : Nat} {w w' : World} {u : Value} {a : List Nat} (h : RowY g w u a) (hE : Ext w w') : RowY g w' u a := by
  rcases h with h | ⟨h1, h2⟩
  · exact Or.inl h
  · exact Or.inr ⟨h1.ext hE, h2⟩
theorem RowB.grown_ne {w w' : World} {u : Value} {a : List Nat} {g : Nat} (h : RowB w u a) (hn : u.ownBlock ≠ some g) (hg : w.grownBy w' (some g)) : RowB w' u a := by
  obtain ⟨h0, k, cap, cs, h1, h2, h3, h4⟩ := h
  exact ⟨h0, k, cap, cs, h1, h2, h3.grown hg fun j hj e => hn (by rw [h1, ← e]; exact hj.symm), h4⟩
theorem RowY.grown {w w' : World} {u : Value} {a : List Nat} {g : Nat} (h : RowY g w u a) (hg : w.grownBy w' (some g)) : RowY g w' u a := by
  rcases h with h | ⟨h1, h2⟩
  · exact Or.inl h
  · exact Or.inr ⟨h1.grown_ne h2 hg, h2⟩
/-- what the closure finds: the atoms, the box of the numbers that are left, the closures -/
structure FacS (w00 : World) (gA mA : Nat) (Y : Nat → Value) (A : List (List Nat)) (n bA bL gL : Nat) (bT bY : Nat) (vT vY : Value) (W : World) : Prop where
  cA : Blk W bA 107 #[.slice (some ⟨gA, 0, none⟩) A.length mA]
  own : OwnC w00 W (.slice (some ⟨gA, 0, none⟩) A.length mA) A
  row : ∀ i, i < A.length → W.cell? ⟨gA, i, none⟩ = some (Y i) ∧ RowB W (Y i) (A.getD i []) ∧ (Y i).ownBlock ≠ some gL
  cL : Blk W bL 22 #[.slice (some ⟨gL, 0, none⟩) n n]
  cT : W.cell? ⟨bT, 0, none⟩ = some vT
  cY : W.cell? ⟨bY, 0, none⟩ = some vY
/-- what a try leaves -/
def TrP (w0 : World) (bO gL : Nat) (w : World) (vo : Value) (O : List Nat) (C : List Int) (vo' : Value) (w' : World) : Prop := Blk w' bO 75 #[vo'] ∧ OwnF w0 w' vo' O ∧ RowI w' gL C ∧ Fr2 bO gL vo.ownBlock w w' ∧ Nw vo.ownBlock w vo'.ownBlock
theorem TrP.trans {w0 w w1 w3 : World} {bO gL : Nat} {vo vo1 vo2 : Value} {A B : List Nat} {C D : List Int} (h : TrP w0 bO gL w vo A C vo1 w1) (k : TrP w0 bO gL w1 vo1 B D vo2 w3) : TrP w0 bO gL w vo B D vo2 w3 :=
  ⟨k.1, k.2.1, k.2.2.1, h.2.2.2.1.trans h.2.2.2.2 k.2.2.2.1, h.2.2.2.2.trans h.2.2.2.1.size k.2.2.2.2⟩
theorem TrP.refl {w0 w : World} {bO gL : Nat} {vo : Value} {A : List Nat} {C : List Int} (h1 : Blk w bO 75 #[vo]) (h2 : OwnF w0 w vo A) (h3 : RowI w gL C) : TrP w0 bO gL w vo A C vo w := ⟨h1, h2, h3, Fr2.refl _ _ _ _, Nw.refl _ _⟩
theorem OwnF.row {w0 w w' : World} {v : Value} {A : List Nat} {g : Nat} {C : List Int} (h : OwnF w0 w v A) (hB : RowI w g C) (hg : w.grownBy w' (some g)) : OwnF w0 w' v A := by
  obtain ⟨M, h1, hL, h5⟩ := h
  obtain ⟨h2, h3, h4⟩ := id hL
  refine ⟨M, h1, ⟨h2, h3.kept hg ?_, h4⟩, fun i hi => ?_⟩
  · cases hv : v.ownBlock with
    | none => simp
    | some k =>
      simp
      intro e
      exact hL.not hB (by decide) (by rw [hv, e])
  · obtain ⟨k0, M', k1, k2, k3⟩ := h5 i hi
    refine ⟨k0, M', k1, k2, ?_⟩
    rcases k3 with k3 | ⟨k, cap, cs, k3, k4, k5, k6⟩
    · exact Or.inl k3
    · exact Or.inr ⟨k, cap, cs, k3, k4, k5.grown hg (fun j hj e => by cases hj; exact blkT_ne k5 hB (by decide) e.symm), k6⟩
/-- the numbers that are left change, nothing else -/
theorem TrP.row {w0 w w1 w2 : World} {bO gL : Nat} {vo vo1 : Value} {A : List Nat} {C D : List Int} (h : TrP w0 bO gL w vo A C vo1 w1) (hR : RowI w2 gL D) (hg : w1.grownBy w2 (some gL)) : TrP w0 bO gL w vo A D vo1 w2 :=
  ⟨h.1.grown hg (fun j hj e => by cases hj; exact blkT_ne h.1 h.2.2.1 (by decide) e.symm), h.2.1.row h.2.2.1 hg, hR, h.2.2.2.1.trans h.2.2.2.2 (fr2_row hg), h.2.2.2.2⟩
theorem TrP.ext {w0 w w1 w2 : World} {bO gL : Nat} {vo vo1 : Value} {A : List Nat} {C : List Int} (h : TrP w0 bO gL w vo A C vo1 w1) (hE : Ext w1 w2) : TrP w0 bO gL w vo A C vo1 w2 :=
  ⟨h.1.ext hE, h.2.1.ext hE, h.2.2.1.ext hE, h.2.2.2.1.trans h.2.2.2.2 (hE.fr2 _ _ _), h.2.2.2.2⟩
theorem cnt_bd {n : Nat} {C R : List Int} (h : CntOf n C R) (hR : R.length ≤ 10) (y : Nat) : 0 ≤ nth C y ∧ nth C y ≤ 10 := by
  by_cases hy : y < n
  · rw [h.2 y hy]
    have := List.count_le_length (a := (y : Int)) (l := R)
    omega
  · have : nth C y = 0 := by
      unfold nth
      rw [List.getD_eq_getElem?_getD, List.getElem?_eq_none (by rw [h.1]; omega)]; rfl
    omega
theorem tk_bd {n : Nat} {C R : List Int} (h : CntOf n C R) (hR : R.length ≤ 10) {a : List Nat} (ha : ∀ x ∈ a, x < n) (hl : a.length ≤ 50) (y : Nat) : -100 ≤ nth (tkS C 1 a) y ∧ nth (tkS C 1 a) y ≤ 100 := by
  rw [tkS_nth _ _ _ (by rw [h.1]; exact ha)]
  have h1 := cnt_bd h hR y
  have h2 : a.count y ≤ 50 := Nat.le_trans List.count_le_length hl
  omega
theorem map_more (d : Nat) (L : List Nat) : ((L.map (· + 1)).map (d + ·)) = L.map (d + 1 + ·) := by
  rw [List.map_map]; apply List.map_congr_left; intro x _; simp; omega
theorem opw_appendsE {P : Program} {o : Oper} {a : Act} {w : World} {K : Act → World → Prop} {Q : Exit → Act → World → Prop} {T TI : TypeId} (hT : IntSl P T TI)
    (s x : Operand) (hop : o.op = Op.call { callee := Callee.builtin Builtin.append, args := #[s, x], argTypes := #[T, T] })
    (wb w0 : World) (v u : Value) (l m : List Int) (hO : OwnE TI wb w0 w v l) (hI : Ints w u m) (hE : Ext w0 w) (hn : l.length + m.length ≤ 17592186044416) (hs : a.eval s = v) (hx : a.eval x = u)
    (hK : ∀ v' w', OwnE TI wb w0 w' v' (l ++ m) → Ext w0 w' → Oth TI w w' → K (a.put o.dst v') w') : Oper.wp P o a w K Q := by
  obtain ⟨v', w', hrun, h1, h2, h3⟩ := run_appendsE hT o.type wb w0 w v u l m hO hI hE hn
  unfold Oper.wp
  simp [execOp, hop, resolve, invoke, builtin, hs, hx, hrun, Result.andThen]
  exact hK v' w' h1 h2 h3
/-- what a step at one atom finds: the atom, and its taking -/
theorem facs_at {w00 : World} {gA cA : Nat} {Y : Nat → Value} {A : List (List Nat)} {n bA bL gL bT bY : Nat} {vT vY : Value} {W : World} (h : FacS w00 gA cA Y A n bA bL gL bT bY vT vY W) {k : Nat} (hk : k < A.length) {D : List Int} (hR : RowI W gL D) (hD : D.length = n) (hb : ∀ y, -100 ≤ nth D y ∧ nth D y ≤ 100) {m : Int} (hm : m = 1 ∨ m = -1) (ha : ∀ x ∈ A.getD k [], x < n) (hl : (A.getD k []).length ≤ 50) :
    Calls Tryz.prog 158 #[Y k, .int .i64 m, .pointer (some ⟨bL, 0, none⟩)] W fun e w' => e = .returned (.bool (tkB D m (A.getD k []))) ∧ RowI w' gL (tkS D m (A.getD k [])) ∧ W.grownBy w' (some gL) := by
  obtain ⟨hcy, hRy, hny⟩ := h.row k hk
  exact take_any _ _ D m gL bL n W (fun W' hW => (hRy.grown_ne hny hW).ints) hm ha hl hD hb hR h.cL (blkT_ne hR h.cL (by decide))
theorem try_any (gA cA : Nat) (Y : Nat → Value) (A : List (List Nat)) (n bA bO bL bT bY gL : Nat) (o0 : Option Nat) (w00 w0 wb : World) (h48 : A.length ≤ 48) (h1a : ∀ a ∈ A, 1 ≤ a.length) (hAn : ∀ a ∈ A, a.length ≤ 50 ∧ ∀ x ∈ a, x < n)
    (HZ : Hid (∀ W, Fr2 bO gL o0 wb W → FacS w00 gA cA Y A n bA bL gL bT bY (.func (.func 158) #[] #[.pointer (some ⟨bL, 0, none⟩)]) (.func (.func 159) #[] #[.pointer (some ⟨bA, 0, none⟩), .pointer (some ⟨bO, 0, none⟩), .pointer (some ⟨bT, 0, none⟩), .pointer (some ⟨bY, 0, none⟩)]) W))
    (hE0 : Ext w0 wb) (hbO : w0.heap.size ≤ bO) (hgL : w0.heap.size ≤ gL) (ho0 : ∀ k, o0 = some k → w0.heap.size ≤ k) (hgLb : gL < wb.heap.size) :
    ∀ (f i0 : Nat) (R : List Int) (X O : List Nat) (C : List Int) (vX vo : Value) (w : World), R.length < f → X.length + R.length ≤ 10 → i0 ≤ A.length → Fr2 bO gL o0 wb w → Nw o0 wb vo.ownBlock → RowY gL w vX X → (∀ x ∈ X, x < A.length) → Blk w bO 75 #[vo] → OwnF w0 w vo O → RowI w gL C → CntOf n C R → O.length + (facF A f i0 R).length ≤ 254803968 →
    Calls Tryz.prog 159 #[.int .i64 i0, .int .i64 R.length, vX, .pointer (some ⟨bA, 0, none⟩), .pointer (some ⟨bO, 0, none⟩), .pointer (some ⟨bT, 0, none⟩), .pointer (some ⟨bY, 0, none⟩)] w fun e w' => e = .returned (.tuple #[]) ∧ ∃ vo', TrP w0 bO gL w vo (O ++ (facF A f i0 R).map (X.length + ·)) C vo' w' := by
  intro f
  induction f with
  | zero => intro i0 R X O C vX vo w hf; omega
  | succ f ih =>
    intro i0 R X O C vX vo w hf hXR hi0 hZ hNo hX hXo hB hO hR hC hK
    have hR10 : R.length ≤ 10 := by omega
    by_cases h0 : R.length = 0
    · have hS := HZ.out w hZ
      have q := tryLeaf_any (.slice (some ⟨gA, 0, none⟩) A.length cA) vX vo (.pointer (some ⟨bT, 0, none⟩)) (.pointer (some ⟨bY, 0, none⟩)) A X O (i0 : Int) bA bO w00 w0 w hB hS.cA hO hS.own hX.e.ints hXo (hZ.ext hE0 hbO hgL ho0) (by omega) (by omega)
      rw [facF_zero h0, show ((R.length : Nat) : Int) = 0 by omega]
      refine q.mono ?_
      rintro e w' ⟨rfl, vo', h1, h2, h3, h4⟩
      exact ⟨rfl, vo', h1, h2, h3.blk hR (blkT_ne hR hB (by decide)) (hO.not hR (by decide)), h3.to2, h4⟩
    · have hRq : (((R.length : Nat) : Int) == 0) = false := by rw [beq_eq_false_iff_ne]; omega
      have Hih := Lib.hid ih
      have HK := Lib.hid hK
      have Hend := Lib.hid (facF_end (A := A) (f := f) (i0 := i0) (R := R) h0)
      have Hmono := Lib.hid (fun k d => facK_mono A f i0 R k d)
      have HAn := Lib.hid hAn
      have H1a := Lib.hid h1a
      have HXo := Lib.hid hXo
      have HC := Lib.hid hC
      have HP0 := Lib.hid (TrP.refl hB hO hR)
      have HZw := Lib.hid hZ
      have HNo := Lib.hid hNo
      have HXR := Lib.hid (And.intro hf hXR)
      have HXp := Lib.hid (fun W O' D' u' (hQ : TrP w0 bO gL w vo O' D' u' W) => hX.fr2 hB hO hQ.2.2.2.1)
      have Hbase := Lib.hid (And.intro hZ.size hgLb)
      obtain ⟨aoX, cX, rfl⟩ := hX.e.shape
      clear ih hK h0 hX hXo hC hB hO hR hZ hNo hAn h1a hE0 hbO hgL ho0 hgLb hf hXR
      go_enter Tryz.func159, Tryz.ntmps159
      go_wp2_with fail
      go_loopw [13] (fun xv wr => ∃ (k : Nat) (u : Value), i0 ≤ k ∧ k ≤ A.length ∧ xv = .int .i64 k ∧ TrP w0 bO gL w vo (O ++ (facK A f i0 R k).map (X.length + ·)) C u wr) (fun xv _ => A.length - (RowKit.intOf xv).toNat)
      case atStart => exact ⟨i0, vo, Nat.le_refl _, hi0, rfl, by rw [facK_start A f i0 R i0 (Nat.le_refl _), List.map_nil, List.append_nil]; exact HP0.out⟩
      case round =>
        clear HP0
        obtain ⟨k, u, hk1, hk2, rfl, hP⟩ := hrel
        have hPd := hP.ext ((Ext.refl wr).drew)
        have S1 := HZ.out _ (HZw.out.trans HNo.out hPd.2.2.2.1)
        have kA : wr.cell? ⟨bA, 0, none⟩ = some (.slice (some ⟨gA, 0, none⟩) A.length cA) := S1.cA.cell (i := 0) rfl
        by_cases hlt : k < A.length
        · have hltI : (k : Int) < (A.length : Int) := by omega
          obtain ⟨haL, han⟩ := HAn.out _ (getD_in hlt)
          have cnt := fun y => cnt_bd HC.out hR10 y
          have cT := facs_at S1 hlt hPd.2.2.1 HC.out.1 (fun y => by have := cnt y; omega) (Or.inl rfl) han haL
          rw [tk_sub HC.out han] at cT
          have tkb := tk_bd HC.out hR10 han haL
          have hRk := (S1.row k hlt).2.1
          have Hno := Lib.hid (fun h => facK_no (A := A) (f := f) (i0 := i0) (R := R) (k := k) h)
          have Hyes := Lib.hid (fun h => facK_yes (A := A) (f := f) (i0 := i0) (R := R) (k := k) hk1 h)
          have Hcnt := Lib.hid (fun h => tk_cnt HC.out han h)
          have Hrl := Lib.hid (fun h => rem_len (A.getD k []) R h)
          have Hback := Lib.hid (tkS_back C (A.getD k []) (fun x hx => by rw [HC.out.1]; exact han x hx))
          have ha1 := H1a.out _ (getD_in hlt)
          have HF0 : ∀ (O' : List Nat) (D' : List Int) (u' : Value) (w3 : World), TrP w0 bO gL w vo O' D' u' w3 → w3.cell? ⟨bT, 0, none⟩ = some (.func (.func 158) #[] #[.pointer (some ⟨bL, 0, none⟩)]) ∧ w3.cell? ⟨bY, 0, none⟩ = some (.func (.func 159) #[] #[.pointer (some ⟨bA, 0, none⟩), .pointer (some ⟨bO, 0, none⟩), .pointer (some ⟨bT, 0, none⟩), .pointer (some ⟨bY, 0, none⟩)]) ∧ w3.cell? ⟨bA, 0, none⟩ = some (.slice (some ⟨gA, 0, none⟩) A.length cA) ∧ w3.cell? ⟨gA, k, none⟩ = some (Y k) := fun O' D' u' w3 hQ => by
            have S3 := HZ.out _ (HZw.out.trans HNo.out hQ.2.2.2.1)
            exact ⟨S3.cT, S3.cY, S3.cA.cell (i := 0) rfl, (S3.row k hlt).1⟩
          have HT0 : ∀ (O' : List Nat) (u' : Value) (w3 : World), TrP w0 bO gL w vo O' (tkS C 1 (A.getD k [])) u' w3 → Calls Tryz.prog 158 #[Y k, .int .i64 (-1), .pointer (some ⟨bL, 0, none⟩)] w3 fun e w' => (∃ b, e = .returned (.bool b)) ∧ TrP w0 bO gL w vo O' C u' w' := fun O' u' w3 hQ => by
            have S3 := HZ.out _ (HZw.out.trans HNo.out hQ.2.2.2.1)
            have q := facs_at S3 hlt hQ.2.2.1 (by rw [tkS_len]; exact HC.out.1) tkb (Or.inr rfl) han haL
            rw [Hback.out] at q
            exact q.mono fun e w' hh => ⟨⟨_, hh.1⟩, hQ.row hh.2.1 hh.2.2⟩
          obtain ⟨a, had⟩ : ∃ a, a = A.getD k [] := ⟨_, rfl⟩
          obtain ⟨y, hyd⟩ : ∃ y, y = Y k := ⟨_, rfl⟩
          simp only [← had, ← hyd] at cT HF0 HT0 hRk
          rw [← had] at haL han Hno Hyes Hcnt Hrl Hback ha1
          obtain ⟨-, gy, cy, -, rfl, -, -, -⟩ := hRk
          have HF := Lib.hid HF0
          have HT := Lib.hid HT0
          obtain ⟨sT, -, kd, hcy⟩ := HF0 _ _ _ _ hPd
          have hixA := rowV_ix elV szV gA A.length cA
          have HPd := Lib.hid hPd
          clear S1 had hyd hP hPd cnt HF0 HT0 tkb
          cases hb : subM R (castL a)
          · have HnoE := Lib.hid (Hno.out hb)
            rw [hb] at cT
            clear Hno Hyes Hcnt Hrl hb
            go_wp2_with fail
            refine wp_region_held_drew (S := (fun W => W.cell? ⟨bT, 0, none⟩ = some (.func (.func 158) #[] #[.pointer (some ⟨bL, 0, none⟩)]) ∧ W.cell? ⟨bA, 0, none⟩ = some (.slice (some ⟨gA, 0, none⟩) A.length cA) ∧ W.cell? ⟨gA, k, none⟩ = some (.slice (some ⟨gy, 0, none⟩) a.length cy))) (by kernel_rfl) (by exact ⟨sT, kd, hcy⟩) (fun hHeld => ?_)
            (refine takeOn (i := 0) (v := ?_) (by kernel_rfl) (by rfl) (by rfl) (by kernel_rfl) (by kernel_rfl) (by intro _ _ _ h; exact h) ?_ (by assumption) ?_); (rotate_left 1); (focus ((intro w hSw); (try dsimp only at hSw); go_simp; (try with_reducible rfl))); (try simp only [Act.put, List.setIfInBounds_toArray, List.set_cons_zero, List.set_cons_succ, List.getElem_toArray, List.getElem_cons_zero, List.getElem_cons_succ])
            (refine takeOn (i := 1) (v := ?_) (by kernel_rfl) (by rfl) (by rfl) (by kernel_rfl) (by kernel_rfl) (by intro _ _ _ h; exact h) ?_ (by assumption) ?_); (rotate_left 1); (focus ((intro w hSw); (try dsimp only at hSw); go_simp; (try with_reducible rfl))); (try simp only [Act.put, List.setIfInBounds_toArray, List.set_cons_zero, List.set_cons_succ, List.getElem_toArray, List.getElem_cons_zero, List.getElem_cons_succ])
            (refine takeOn (i := 2) (v := ?_) (by kernel_rfl) (by rfl) (by rfl) (by kernel_rfl) (by kernel_rfl) (by intro _ _ _ h; exact h) ?_ (by assumption) ?_); (rotate_left 1); (focus ((intro w hSw); (try dsimp only at hSw); go_simp; (try with_reducible rfl))); (try simp only [Act.put, List.setIfInBounds_toArray, List.set_cons_zero, List.set_cons_succ, List.getElem_toArray, List.getElem_cons_zero, List.getElem_cons_succ])
            (refine takeOn (i := 3) (v := ?_) (by kernel_rfl) (by rfl) (by rfl) (by kernel_rfl) (by kernel_rfl) (by intro _ _ _ h; exact h) ?_ (by assumption) ?_); (rotate_left 1); (focus ((intro w hSw); (try dsimp only at hSw); go_simp; (try with_reducible rfl))); (try simp only [Act.put, List.setIfInBounds_toArray, List.set_cons_zero, List.set_cons_succ, List.getElem_toArray, List.getElem_cons_zero, List.getElem_cons_succ])
            (refine takeOn (i := 4) (v := ?_) (by kernel_rfl) (by rfl) (by rfl) (by kernel_rfl) (by kernel_rfl) (by intro _ _ _ h; exact h) ?_ (by assumption) ?_); (rotate_left 1); (focus ((intro w hSw); (try dsimp only at hSw); go_simp; (try with_reducible rfl))); (try simp only [Act.put, List.setIfInBounds_toArray, List.set_cons_zero, List.set_cons_succ, List.getElem_toArray, List.getElem_cons_zero, List.getElem_cons_succ])
            refine takeOne (i := 5) (by kernel_rfl) (by rfl) (by rfl) (fun K hK => ?_)
            go_simp; (go_at_call 158; (with_reducible refine Calls.mono cT ?_); rintro e w2 ⟨rfl, hR2, hG2⟩); have hP2 := HPd.out.row hR2 hG2; obtain ⟨t1, -, t2, t3⟩ := HF.out _ _ _ _ hP2
            refine hK.out _ _ (by exact ⟨t1, t2, t3⟩) (fun hHeld => ?_)
            clear hK K
            (try simp only [Act.put, List.setIfInBounds_toArray, List.set_cons_zero, List.set_cons_succ, List.getElem_toArray, List.getElem_cons_zero, List.getElem_cons_succ])
            refine wpAnyH_done (by kernel_rfl) ?_ _
            go_wp2_with fail
            have cT2 := HT.out _ _ _ (hP2.ext ((Ext.refl w2).drew))
            refine wp_region_held_drew (S := (fun W => W.cell? ⟨bT, 0, none⟩ = some (.func (.func 158) #[] #[.pointer (some ⟨bL, 0, none⟩)]) ∧ W.cell? ⟨bA, 0, none⟩ = some (.slice (some ⟨gA, 0, none⟩) A.length cA) ∧ W.cell? ⟨gA, k, none⟩ = some (.slice (some ⟨gy, 0, none⟩) a.length cy))) (by kernel_rfl) (by exact ⟨t1, t2, t3⟩) (fun hHeld => ?_)
            (refine takeOn (i := 0) (v := ?_) (by kernel_rfl) (by rfl) (by rfl) (by kernel_rfl) (by kernel_rfl) (by intro _ _ _ h; exact h) ?_ (by assumption) ?_); (rotate_left 1); (focus ((intro w hSw); (try dsimp only at hSw); go_simp; (try with_reducible rfl))); (try simp only [Act.put, List.setIfInBounds_toArray, List.set_cons_zero, List.set_cons_succ, List.getElem_toArray, List.getElem_cons_zero, List.getElem_cons_succ])
            (refine takeOn (i := 1) (v := ?_) (by kernel_rfl) (by rfl) (by rfl) (by kernel_rfl) (by kernel_rfl) (by intro _ _ _ h; exact h) ?_ (by assumption) ?_); (rotate_left 1); (focus ((intro w hSw); (try dsimp only at hSw); go_simp; (try with_reducible rfl))); (try simp only [Act.put, List.setIfInBounds_toArray, List.set_cons_zero, List.set_cons_succ, List.getElem_toArray, List.getElem_cons_zero, List.getElem_cons_succ])
            (refine takeOn (i := 2) (v := ?_) (by kernel_rfl) (by rfl) (by rfl) (by kernel_rfl) (by kernel_rfl) (by intro _ _ _ h; exact h) ?_ (by assumption) ?_); (rotate_left 1); (focus ((intro w hSw); (try dsimp only at hSw); go_simp; (try with_reducible rfl))); (try simp only [Act.put, List.setIfInBounds_toArray, List.set_cons_zero, List.set_cons_succ, List.getElem_toArray, List.getElem_cons_zero, List.getElem_cons_succ])
            (refine takeOn (i := 3) (v := ?_) (by kernel_rfl) (by rfl) (by rfl) (by kernel_rfl) (by kernel_rfl) (by intro _ _ _ h; exact h) ?_ (by assumption) ?_); (rotate_left 1); (focus ((intro w hSw); (try dsimp only at hSw); go_simp; (try with_reducible rfl))); (try simp only [Act.put, List.setIfInBounds_toArray, List.set_cons_zero, List.set_cons_succ, List.getElem_toArray, List.getElem_cons_zero, List.getElem_cons_succ])
            (refine takeOn (i := 4) (v := ?_) (by kernel_rfl) (by rfl) (by rfl) (by kernel_rfl) (by kernel_rfl) (by intro _ _ _ h; exact h) ?_ (by assumption) ?_); (rotate_left 1); (focus ((intro w hSw); (try dsimp only at hSw); go_simp; (try with_reducible rfl))); (try simp only [Act.put, List.setIfInBounds_toArray, List.set_cons_zero, List.set_cons_succ, List.getElem_toArray, List.getElem_cons_zero, List.getElem_cons_succ])
            refine takeOne (i := 5) (by kernel_rfl) (by rfl) (by rfl) (fun K hK => ?_)
            go_simp; (go_at_call 158; (with_reducible refine Calls.mono cT2 ?_); rintro e w4 ⟨⟨b4, rfl⟩, hP4⟩); obtain ⟨r1, -, r2, r3⟩ := HF.out _ _ _ _ hP4
            refine hK.out _ _ (by exact ⟨r1, r2, r3⟩) (fun hHeld => ?_)
            clear hK K
            (try simp only [Act.put, List.setIfInBounds_toArray, List.set_cons_zero, List.set_cons_succ, List.getElem_toArray, List.getElem_cons_zero, List.getElem_cons_succ])
            refine wpAnyH_done (by kernel_rfl) ?_ _
            go_wp2_with fail
            go_roundw
            case rel => exact ⟨k + 1, u, by omega, by omega, by go_num, by rw [HnoE.out]; exact hP4⟩
            case measure => (simp [RowKit.intOf]; omega)
          · have hyE := Hyes.out hb
            have hcn := Hcnt.out hb
            have hrl := Hrl.out hb
            rw [hb] at cT
            obtain ⟨N, hNd⟩ : ∃ N, N = (remL R a).length := ⟨_, rfl⟩
            have hwk : IntKind.i64.wrap (((R.length : Nat) : Int) - ((a.length : Nat) : Int)) = (N : Int) := by rw [IntWalk.i64_in _ (by omega)]; omega
            have hln : (castL X).length + [(k : Int)].length ≤ 17592186044416 := by have := HXR.out.2; rw [castL_len]; simp; omega
            have hX1 : (X ++ [k]).length ≤ 1000 := by have := HXR.out.2; simp; omega
            have HyE := Lib.hid hyE
            have Hcn := Lib.hid hcn
            have Hrl2 := Lib.hid (And.intro hrl ha1)
            have HNd := Lib.hid hNd
            have hkF := True.intro
            clear Hno Hyes Hcnt Hrl hb hyE hcn hrl hNd
            go_wp2_with fail
            refine wp_region_held_drew (S := (fun W => W.cell? ⟨bT, 0, none⟩ = some (.func (.func 158) #[] #[.pointer (some ⟨bL, 0, none⟩)]) ∧ W.cell? ⟨bA, 0, none⟩ = some (.slice (some ⟨gA, 0, none⟩) A.length cA) ∧ W.cell? ⟨gA, k, none⟩ = some (.slice (some ⟨gy, 0, none⟩) a.length cy))) (by kernel_rfl) (by exact ⟨sT, kd, hcy⟩) (fun hHeld => ?_)
            (refine takeOn (i := 0) (v := ?_) (by kernel_rfl) (by rfl) (by rfl) (by kernel_rfl) (by kernel_rfl) (by intro _ _ _ h; exact h) ?_ (by assumption) ?_); (rotate_left 1); (focus ((intro w hSw); (try dsimp only at hSw); go_simp; (try with_reducible rfl))); (try simp only [Act.put, List.setIfInBounds_toArray, List.set_cons_zero, List.set_cons_succ, List.getElem_toArray, List.getElem_cons_zero, List.getElem_cons_succ])
            (refine takeOn (i := 1) (v := ?_) (by kernel_rfl) (by rfl) (by rfl) (by kernel_rfl) (by kernel_rfl) (by intro _ _ _ h; exact h) ?_ (by assumption) ?_); (rotate_left 1); (focus ((intro w hSw); (try dsimp only at hSw); go_simp; (try with_reducible rfl))); (try simp only [Act.put, List.setIfInBounds_toArray, List.set_cons_zero, List.set_cons_succ, List.getElem_toArray, List.getElem_cons_zero, List.getElem_cons_succ])
            (refine takeOn (i := 2) (v := ?_) (by kernel_rfl) (by rfl) (by rfl) (by kernel_rfl) (by kernel_rfl) (by intro _ _ _ h; exact h) ?_ (by assumption) ?_); (rotate_left 1); (focus ((intro w hSw); (try dsimp only at hSw); go_simp; (try with_reducible rfl))); (try simp only [Act.put, List.setIfInBounds_toArray, List.set_cons_zero, List.set_cons_succ, List.getElem_toArray, List.getElem_cons_zero, List.getElem_cons_succ])
            (refine takeOn (i := 3) (v := ?_) (by kernel_rfl) (by rfl) (by rfl) (by kernel_rfl) (by kernel_rfl) (by intro _ _ _ h; exact h) ?_ (by assumption) ?_); (rotate_left 1); (focus ((intro w hSw); (try dsimp only at hSw); go_simp; (try with_reducible rfl))); (try simp only [Act.put, List.setIfInBounds_toArray, List.set_cons_zero, List.set_cons_succ, List.getElem_toArray, List.getElem_cons_zero, List.getElem_cons_succ])
            (refine takeOn (i := 4) (v := ?_) (by kernel_rfl) (by rfl) (by rfl) (by kernel_rfl) (by kernel_rfl) (by intro _ _ _ h; exact h) ?_ (by assumption) ?_); (rotate_left 1); (focus ((intro w hSw); (try dsimp only at hSw); go_simp; (try with_reducible rfl))); (try simp only [Act.put, List.setIfInBounds_toArray, List.set_cons_zero, List.set_cons_succ, List.getElem_toArray, List.getElem_cons_zero, List.getElem_cons_succ])
            refine takeOne (i := 5) (by kernel_rfl) (by rfl) (by rfl) (fun K hK => ?_)
            go_simp; (go_at_call 158; (with_reducible refine Calls.mono cT ?_); rintro e w2 ⟨rfl, hR2, hG2⟩); have hP2 := HPd.out.row hR2 hG2; obtain ⟨t1, -, t2, t3⟩ := HF.out _ _ _ _ hP2
            refine hK.out _ _ (by exact ⟨t1, t2, t3⟩) (fun hHeld => ?_)
            clear hK K
            (try simp only [Act.put, List.setIfInBounds_toArray, List.set_cons_zero, List.set_cons_succ, List.getElem_toArray, List.getElem_cons_zero, List.getElem_cons_succ])
            refine wpAnyH_done (by kernel_rfl) ?_ _
            go_upto_region 12 with fail
            have cI : ∀ W vN, Ext w2 W → RowY gL W vN (X ++ [k]) → Calls Tryz.prog 159 #[.int .i64 k, .int .i64 N, vN, .pointer (some ⟨bA, 0, none⟩), .pointer (some ⟨bO, 0, none⟩), .pointer (some ⟨bT, 0, none⟩), .pointer (some ⟨bY, 0, none⟩)] W fun e w' => e = .returned (.tuple #[]) ∧ ∃ vo', TrP w0 bO gL W u (O ++ (facK A f i0 R (k + 1)).map (X.length + ·)) (tkS C 1 a) vo' w' := fun W vN hW hI => by
              have hQ := hP2.ext hW
              have h1 := HK.out
              have h2 := Hmono.out (k + 1) (A.length - (k + 1))
              rw [show k + 1 + (A.length - (k + 1)) = A.length by omega, ← Hend.out, HyE.out, List.length_append, List.length_map] at h2
              have h3 := HXR.out
              have h4 := Hrl2.out
              have q := Hih.out k (remL R a) (X ++ [k]) (O ++ (facK A f i0 R k).map (X.length + ·)) (tkS C 1 a) vN u W (by omega) (by rw [List.length_append, List.length_singleton]; omega) (by omega) (HZw.out.trans HNo.out hQ.2.2.2.1) (HNo.out.trans HZw.out.size hQ.2.2.2.2) hI (fun x hx => by
                rw [List.mem_append, List.mem_singleton] at hx
                rcases hx with hx | rfl
                · exact HXo.out x hx
                · exact hlt) hQ.1 hQ.2.1 hQ.2.2.1 Hcn.out (by rw [List.length_append, List.length_map]; omega)
              rw [List.length_append, List.length_singleton, List.append_assoc, ← map_more, ← List.map_append, ← HyE.out, ← HNd.out] at q
              exact q
            have HXi := Lib.hid (fun W (hW : Ext w2 W) => ((HXp.out _ _ _ _ (hP2.ext hW))).e.ints)
            have HRY : Hid (∀ W v, Own 3 w2 W v (castL (X ++ [k])) → RowY gL W v (X ++ [k])) := Lib.hid (fun W v hO => Or.inr ⟨rowB_own hO (by simp) hX1, fun e => by
              have h1 := (hO.blk _ e).1
              have h2 := hP2.2.2.2.1.size
              have h3 := Hbase.out
              omega⟩)
            have kS : ∀ W, Ext w2 W → W.cell? ⟨bY, 0, none⟩ = some (.func (.func 159) #[] #[.pointer (some ⟨bA, 0, none⟩), .pointer (some ⟨bO, 0, none⟩), .pointer (some ⟨bT, 0, none⟩), .pointer (some ⟨bY, 0, none⟩)]) ∧ W.cell? ⟨bA, 0, none⟩ = some (.slice (some ⟨gA, 0, none⟩) A.length cA) ∧ W.cell? ⟨gA, k, none⟩ = some (.slice (some ⟨gy, 0, none⟩) a.length cy) := fun W hW => (HF.out _ _ _ _ (hP2.ext hW)).2
            have HF2 : Hid (∀ O' u' W, TrP w0 bO gL w vo O' (tkS C 1 a) u' W → W.cell? ⟨bY, 0, none⟩ = some (.func (.func 159) #[] #[.pointer (some ⟨bA, 0, none⟩), .pointer (some ⟨bO, 0, none⟩), .pointer (some ⟨bT, 0, none⟩), .pointer (some ⟨bY, 0, none⟩)]) ∧ W.cell? ⟨bA, 0, none⟩ = some (.slice (some ⟨gA, 0, none⟩) A.length cA) ∧ W.cell? ⟨gA, k, none⟩ = some (.slice (some ⟨gy, 0, none⟩) a.length cy)) := Lib.hid (fun O' u' W hQ => (HF.out _ _ _ _ hQ).2)
            have hH0 : Ext w2 w2 := Ext.refl _
            go_cut [] (fun wx => ∃ vF, TrP w0 bO gL w vo (O ++ (facK A f i0 R (k + 1)).map (X.length + ·)) (tkS C 1 a) vF wx)
            case first =>
              refine wp_region_held_drew (S := (fun W => W.cell? ⟨bY, 0, none⟩ = some (.func (.func 159) #[] #[.pointer (some ⟨bA, 0, none⟩), .pointer (some ⟨bO, 0, none⟩), .pointer (some ⟨bT, 0, none⟩), .pointer (some ⟨bY, 0, none⟩)]) ∧ W.cell? ⟨bA, 0, none⟩ = some (.slice (some ⟨gA, 0, none⟩) A.length cA) ∧ W.cell? ⟨gA, k, none⟩ = some (.slice (some ⟨gy, 0, none⟩) a.length cy))) (by kernel_rfl) (by exact kS _ (by repeat (first | assumption | exact Ext.refl _ | (apply And.left; assumption) | apply Ext.drew | apply Ext.alloc))) (fun hHeld => ?_)
              (refine takeOn (i := 0) (v := ?_) (by kernel_rfl) (by rfl) (by rfl) (by kernel_rfl) (by kernel_rfl) (by intro _ _ _ h; exact h) ?_ (by assumption) ?_); (rotate_left 1); (focus ((intro w hSw); (try dsimp only at hSw); go_simp; (try with_reducible rfl))); (try simp only [Act.put, List.setIfInBounds_toArray, List.set_cons_zero, List.set_cons_succ, List.getElem_toArray, List.getElem_cons_zero, List.getElem_cons_succ])
              (refine takeOn (i := 1) (v := ?_) (by kernel_rfl) (by rfl) (by rfl) (by kernel_rfl) (by kernel_rfl) (by intro _ _ _ h; exact h) ?_ (by assumption) ?_); (rotate_left 1); (focus ((intro w hSw); (try dsimp only at hSw); go_simp; (try with_reducible rfl))); (try simp only [Act.put, List.setIfInBounds_toArray, List.set_cons_zero, List.set_cons_succ, List.getElem_toArray, List.getElem_cons_zero, List.getElem_cons_succ])
              (refine takeOn (i := 2) (v := ?_) (by kernel_rfl) (by rfl) (by rfl) (by kernel_rfl) (by kernel_rfl) (by intro _ _ _ h; exact h) ?_ (by assumption) ?_); (rotate_left 1); (focus ((intro w hSw); (try dsimp only at hSw); go_simp; (try with_reducible rfl))); (try simp only [Act.put, List.setIfInBounds_toArray, List.set_cons_zero, List.set_cons_succ, List.getElem_toArray, List.getElem_cons_zero, List.getElem_cons_succ])
              (refine takeOn (i := 3) (v := ?_) (by kernel_rfl) (by rfl) (by rfl) (by kernel_rfl) (by kernel_rfl) (by intro _ _ _ h; exact h) ?_ (by assumption) ?_); (rotate_left 1); (focus ((intro w hSw); (try dsimp only at hSw); go_simp; (try with_reducible rfl))); (try simp only [Act.put, List.setIfInBounds_toArray, List.set_cons_zero, List.set_cons_succ, List.getElem_toArray, List.getElem_cons_zero, List.getElem_cons_succ])
              (refine takeOn (i := 4) (v := ?_) (by kernel_rfl) (by rfl) (by rfl) (by kernel_rfl) (by kernel_rfl) (by intro _ _ _ h; exact h) ?_ (by assumption) ?_); (rotate_left 1); (focus ((intro w hSw); (try dsimp only at hSw); go_simp; (try with_reducible rfl))); (try simp only [Act.put, List.setIfInBounds_toArray, List.set_cons_zero, List.set_cons_succ, List.getElem_toArray, List.getElem_cons_zero, List.getElem_cons_succ])
              (refine takeOn (i := 5) (v := ?_) (by kernel_rfl) (by rfl) (by rfl) (by kernel_rfl) (by kernel_rfl) (by intro _ _ _ h; exact h) ?_ (by assumption) ?_); (rotate_left 1); (focus ((intro w hSw); (try dsimp only at hSw); go_simp; (try with_reducible rfl))); (try simp only [Act.put, List.setIfInBounds_toArray, List.set_cons_zero, List.set_cons_succ, List.getElem_toArray, List.getElem_cons_zero, List.getElem_cons_succ])
              (refine takeOn (i := 6) (v := ?_) (by kernel_rfl) (by rfl) (by rfl) (by kernel_rfl) (by kernel_rfl) (by intro _ _ _ h; exact h) ?_ (by assumption) ?_); (rotate_left 1); (focus ((intro w hSw); (try dsimp only at hSw); go_simp; (try with_reducible rfl))); (try simp only [Act.put, List.setIfInBounds_toArray, List.set_cons_zero, List.set_cons_succ, List.getElem_toArray, List.getElem_cons_zero, List.getElem_cons_succ])
              (refine takeOn (i := 7) (v := ?_) (by kernel_rfl) (by rfl) (by rfl) (by kernel_rfl) (by kernel_rfl) (by intro _ _ _ h; exact h) ?_ (by assumption) ?_); (rotate_left 1); (focus ((intro w hSw); (try dsimp only at hSw); go_simp; (try with_reducible rfl))); (try simp only [Act.put, List.setIfInBounds_toArray, List.set_cons_zero, List.set_cons_succ, List.getElem_toArray, List.getElem_cons_zero, List.getElem_cons_succ])
              (refine takeOn (i := 8) (v := ?_) (by kernel_rfl) (by rfl) (by rfl) (by kernel_rfl) (by kernel_rfl) (by intro _ _ _ h; exact h) ?_ (by assumption) ?_); (rotate_left 1); (focus ((intro w hSw); (try dsimp only at hSw); go_simp; (first | done | with_reducible rfl | (rw [if_neg]; (try simp only [ByteArray.size_append, ByteArray.size_mk, List.size_toArray, List.length_cons, List.length_nil]); omega) | trace_state))); (try simp only [Act.put, List.setIfInBounds_toArray, List.set_cons_zero, List.set_cons_succ, List.getElem_toArray, List.getElem_cons_zero, List.getElem_cons_succ])
              (refine takeOn (i := 9) (v := ?_) (by kernel_rfl) (by rfl) (by rfl) (by kernel_rfl) (by kernel_rfl) (by intro _ _ _ h; exact h) ?_ (by assumption) ?_); (rotate_left 1); (focus ((intro w hSw); (try dsimp only at hSw); go_simp; (try with_reducible rfl))); (try simp only [Act.put, List.setIfInBounds_toArray, List.set_cons_zero, List.set_cons_succ, List.getElem_toArray, List.getElem_cons_zero, List.getElem_cons_succ])
              (refine takeOn (i := 11) (v := ?_) (by kernel_rfl) (by rfl) (by rfl) (by kernel_rfl) (by kernel_rfl) (by intro _ _ _ h; exact h) ?_ (by assumption) ?_); (rotate_left 1); (focus ((intro w hSw); (try dsimp only at hSw); go_simp; (try with_reducible rfl))); (try simp only [Act.put, List.setIfInBounds_toArray, List.set_cons_zero, List.set_cons_succ, List.getElem_toArray, List.getElem_cons_zero, List.getElem_cons_succ])
              refine wpAnyH_ready (rs := [10, 12]) (by kernel_rfl) (by simp) ?_
              refine AllReadyH.cons (i := 10) (by rfl) (fun K hK => ?_) (AllReadyH.cons (i := 12) (by rfl) (fun K hK => ?_) (AllReadyH.nil))
              · rw [if_pos (by rfl)]
                go_simp; (go_at_call 86; (with_reducible refine Calls.mono (Calls.sh (copyInts_any _ _ _ (HXi.out _ (by repeat (first | assumption | exact Ext.refl _ | (apply And.left; assumption) | apply Ext.drew | apply Ext.alloc))))) ?_); rintro eC wC ⟨aoC, cC, rfl, hOC, hXC⟩); have hHC := Ext.trans (a := w2) (by repeat (first | assumption | exact Ext.refl _ | (apply And.left; assumption) | apply Ext.drew | apply Ext.alloc)) hXC; have hOC2 := hOC.mono (show Ext w2 _ by repeat (first | assumption | exact Ext.refl _ | (apply And.left; assumption) | apply Ext.drew | apply Ext.alloc))
                refine hK.out _ _ (by first | exact hkF | exact kS _ (by repeat (first | assumption | exact Ext.refl _ | (apply And.left; assumption) | apply Ext.drew | apply Ext.alloc))) (fun hHeld => ?_)
                clear hK K
                (try simp only [Act.put, List.setIfInBounds_toArray, List.set_cons_zero, List.set_cons_succ, List.getElem_toArray, List.getElem_cons_zero, List.getElem_cons_succ])
                refine takeOne (i := 12) (by kernel_rfl) (by rfl) (by rfl) (fun K hK => ?_)
                go_simp
                refine hK.out _ _ (by first | exact hkF | exact kS _ (by repeat (first | assumption | exact Ext.refl _ | (apply And.left; assumption) | apply Ext.drew | apply Ext.alloc))) (fun hHeld => ?_)
                clear hK K
                (try simp only [Act.put, List.setIfInBounds_toArray, List.set_cons_zero, List.set_cons_succ, List.getElem_toArray, List.getElem_cons_zero, List.getElem_cons_succ])
                refine takeOne (i := 13) (by kernel_rfl) (by rfl) (by rfl) (fun K hK => ?_)
                (refine opw_appendsE slI _ _ rfl w2 w2 _ _ (castL X) [(k : Int)] (Or.inr (by first | exact hOC2 | exact hOC2.alloc _ | exact (hOC2.alloc _).drew)) (Blk.ints1 (T := 3) (by repeat (first | (with_reducible assumption) | (with_reducible exact Blk.new _ _ _) | ((with_reducible refine Blk.new' ?_); simp [go_sem]; done) | (with_reducible apply Blk.alloc) | (with_reducible apply Blk.drew) | (with_reducible refine Blk.ext ?_ hXC)))) (by repeat (first | assumption | exact Ext.refl _ | (apply And.left; assumption) | apply Ext.drew | apply Ext.alloc)) hln rfl rfl ?_); intro vD wD hOD hXD hTD; obtain ⟨aoN, cN, rfl, hON, hEN⟩ := NxP.of hOD hXD
                refine hK.out _ _ (by first | exact hkF | exact kS _ (by repeat (first | assumption | exact Ext.refl _ | (apply And.left; assumption) | apply Ext.drew | apply Ext.alloc))) (fun hHeld => ?_)
                clear hK K
                (try simp only [Act.put, List.setIfInBounds_toArray, List.set_cons_zero, List.set_cons_succ, List.getElem_toArray, List.getElem_cons_zero, List.getElem_cons_succ])
                refine takeOne (i := 14) (by kernel_rfl) (by rfl) (by rfl) (fun K hK => ?_)
                go_simp; (go_at_call 159; (with_reducible refine Calls.mono (cI wD _ hEN (HRY.out _ _ hON)) ?_); rintro e wF ⟨rfl, vF, hPF⟩); have hP5 := (hP2.ext hEN).trans hPF; have hkF := HF2.out _ _ _ hP5
                refine hK.out _ _ (by first | exact hkF | exact kS _ (by repeat (first | assumption | exact Ext.refl _ | (apply And.left; assumption) | apply Ext.drew | apply Ext.alloc))) (fun hHeld => ?_)
                clear hK K
                (try simp only [Act.put, List.setIfInBounds_toArray, List.set_cons_zero, List.set_cons_succ, List.getElem_toArray, List.getElem_cons_zero, List.getElem_cons_succ])
                refine wpAnyH_done (by kernel_rfl) ?_ _
                go_wp2_with fail
                go_meet
                exact ⟨_, hP5⟩
              · rw [if_pos (by rfl)]
                go_simp
                refine hK.out _ _ (by first | exact hkF | exact kS _ (by repeat (first | assumption | exact Ext.refl _ | (apply And.left; assumption) | apply Ext.drew | apply Ext.alloc))) (fun hHeld => ?_)
                clear hK K
                (try simp only [Act.put, List.setIfInBounds_toArray, List.set_cons_zero, List.set_cons_succ, List.getElem_toArray, List.getElem_cons_zero, List.getElem_cons_succ])
                refine takeOne (i := 10) (by kernel_rfl) (by rfl) (by rfl) (fun K hK => ?_)
                go_simp; (go_at_call 86; (with_reducible refine Calls.mono (Calls.sh (copyInts_any _ _ _ (HXi.out _ (by repeat (first | assumption | exact Ext.refl _ | (apply And.left; assumption) | apply Ext.drew | apply Ext.alloc))))) ?_); rintro eC wC ⟨aoC, cC, rfl, hOC, hXC⟩); have hHC := Ext.trans (a := w2) (by repeat (first | assumption | exact Ext.refl _ | (apply And.left; assumption) | apply Ext.drew | apply Ext.alloc)) hXC; have hOC2 := hOC.mono (show Ext w2 _ by repeat (first | assumption | exact Ext.refl _ | (apply And.left; assumption) | apply Ext.drew | apply Ext.alloc))
                refine hK.out _ _ (by first | exact hkF | exact kS _ (by repeat (first | assumption | exact Ext.refl _ | (apply And.left; assumption) | apply Ext.drew | apply Ext.alloc))) (fun hHeld => ?_)
                clear hK K
                (try simp only [Act.put, List.setIfInBounds_toArray, List.set_cons_zero, List.set_cons_succ, List.getElem_toArray, List.getElem_cons_zero, List.getElem_cons_succ])
                refine takeOne (i := 13) (by kernel_rfl) (by rfl) (by rfl) (fun K hK => ?_)
                (refine opw_appendsE slI _ _ rfl w2 w2 _ _ (castL X) [(k : Int)] (Or.inr (by first | exact hOC2 | exact hOC2.alloc _ | exact (hOC2.alloc _).drew)) (Blk.ints1 (T := 3) (by repeat (first | (with_reducible assumption) | (with_reducible exact Blk.new _ _ _) | ((with_reducible refine Blk.new' ?_); simp [go_sem]; done) | (with_reducible apply Blk.alloc) | (with_reducible apply Blk.drew) | (with_reducible refine Blk.ext ?_ hXC)))) (by repeat (first | assumption | exact Ext.refl _ | (apply And.left; assumption) | apply Ext.drew | apply Ext.alloc)) hln rfl rfl ?_); intro vD wD hOD hXD hTD; obtain ⟨aoN, cN, rfl, hON, hEN⟩ := NxP.of hOD hXD
                refine hK.out _ _ (by first | exact hkF | exact kS _ (by repeat (first | assumption | exact Ext.refl _ | (apply And.left; assumption) | apply Ext.drew | apply Ext.alloc))) (fun hHeld => ?_)
                clear hK K
                (try simp only [Act.put, List.setIfInBounds_toArray, List.set_cons_zero, List.set_cons_succ, List.getElem_toArray, List.getElem_cons_zero, List.getElem_cons_succ])
                refine takeOne (i := 14) (by kernel_rfl) (by rfl) (by rfl) (fun K hK => ?_)
                go_simp; (go_at_call 159; (with_reducible refine Calls.mono (cI wD _ hEN (HRY.out _ _ hON)) ?_); rintro e wF ⟨rfl, vF, hPF⟩); have hP5 := (hP2.ext hEN).trans hPF; have hkF := HF2.out _ _ _ hP5
                refine hK.out _ _ (by first | exact hkF | exact kS _ (by repeat (first | assumption | exact Ext.refl _ | (apply And.left; assumption) | apply Ext.drew | apply Ext.alloc))) (fun hHeld => ?_)
                clear hK K
                (try simp only [Act.put, List.setIfInBounds_toArray, List.set_cons_zero, List.set_cons_succ, List.getElem_toArray, List.getElem_cons_zero, List.getElem_cons_succ])
                refine wpAnyH_done (by kernel_rfl) ?_ _
                go_wp2_with fail
                go_meet
                exact ⟨_, hP5⟩
            case rest =>
              obtain ⟨vF, hP5⟩ := hcut
              obtain ⟨t1, -, t2, t3⟩ := HF.out _ _ _ _ hP5
              have cT2 := HT.out _ _ _ (hP5.ext ((Ext.refl wc).drew))
              go_wp2_with fail
              refine wp_region_held_drew (S := (fun W => W.cell? ⟨bT, 0, none⟩ = some (.func (.func 158) #[] #[.pointer (some ⟨bL, 0, none⟩)]) ∧ W.cell? ⟨bA, 0, none⟩ = some (.slice (some ⟨gA, 0, none⟩) A.length cA) ∧ W.cell? ⟨gA, k, none⟩ = some (.slice (some ⟨gy, 0, none⟩) a.length cy))) (by kernel_rfl) (by exact ⟨t1, t2, t3⟩) (fun hHeld => ?_)
              (refine takeOn (i := 0) (v := ?_) (by kernel_rfl) (by rfl) (by rfl) (by kernel_rfl) (by kernel_rfl) (by intro _ _ _ h; exact h) ?_ (by assumption) ?_); (rotate_left 1); (focus ((intro w hSw); (try dsimp only at hSw); go_simp; (try with_reducible rfl))); (try simp only [Act.put, List.setIfInBounds_toArray, List.set_cons_zero, List.set_cons_succ, List.getElem_toArray, List.getElem_cons_zero, List.getElem_cons_succ])
              (refine takeOn (i := 1) (v := ?_) (by kernel_rfl) (by rfl) (by rfl) (by kernel_rfl) (by kernel_rfl) (by intro _ _ _ h; exact h) ?_ (by assumption) ?_); (rotate_left 1); (focus ((intro w hSw); (try dsimp only at hSw); go_simp; (try with_reducible rfl))); (try simp only [Act.put, List.setIfInBounds_toArray, List.set_cons_zero, List.set_cons_succ, List.getElem_toArray, List.getElem_cons_zero, List.getElem_cons_succ])
              (refine takeOn (i := 2) (v := ?_) (by kernel_rfl) (by rfl) (by rfl) (by kernel_rfl) (by kernel_rfl) (by intro _ _ _ h; exact h) ?_ (by assumption) ?_); (rotate_left 1); (focus ((intro w hSw); (try dsimp only at hSw); go_simp; (try with_reducible rfl))); (try simp only [Act.put, List.setIfInBounds_toArray, List.set_cons_zero, List.set_cons_succ, List.getElem_toArray, List.getElem_cons_zero, List.getElem_cons_succ])
              (refine takeOn (i := 3) (v := ?_) (by kernel_rfl) (by rfl) (by rfl) (by kernel_rfl) (by kernel_rfl) (by intro _ _ _ h; exact h) ?_ (by assumption) ?_); (rotate_left 1); (focus ((intro w hSw); (try dsimp only at hSw); go_simp; (try with_reducible rfl))); (try simp only [Act.put, List.setIfInBounds_toArray, List.set_cons_zero, List.set_cons_succ, List.getElem_toArray, List.getElem_cons_zero, List.getElem_cons_succ])
              (refine takeOn (i := 4) (v := ?_) (by kernel_rfl) (by rfl) (by rfl) (by kernel_rfl) (by kernel_rfl) (by intro _ _ _ h; exact h) ?_ (by assumption) ?_); (rotate_left 1); (focus ((intro w hSw); (try dsimp only at hSw); go_simp; (try with_reducible rfl))); (try simp only [Act.put, List.setIfInBounds_toArray, List.set_cons_zero, List.set_cons_succ, List.getElem_toArray, List.getElem_cons_zero, List.getElem_cons_succ])
              refine takeOne (i := 5) (by kernel_rfl) (by rfl) (by rfl) (fun K hK => ?_)
              go_simp; (go_at_call 158; (with_reducible refine Calls.mono cT2 ?_); rintro e w4 ⟨⟨b4, rfl⟩, hP4⟩); obtain ⟨r1, -, r2, r3⟩ := HF.out _ _ _ _ hP4
              refine hK.out _ _ (by exact ⟨r1, r2, r3⟩) (fun hHeld => ?_)
              clear hK K
              (try simp only [Act.put, List.setIfInBounds_toArray, List.set_cons_zero, List.set_cons_succ, List.getElem_toArray, List.getElem_cons_zero, List.getElem_cons_succ])
              refine wpAnyH_done (by kernel_rfl) ?_ _
              go_wp2_with fail
              go_roundw
              case rel => exact ⟨k + 1, vF, by omega, by omega, by go_num, hP4⟩
              case measure => (simp [RowKit.intOf]; omega)
        · have hltI : ¬ (k : Int) < (A.length : Int) := by omega
          have hkl : k = A.length := by omega
          subst hkl
          go_wp2_with fail
          go_end0
          exact ⟨rfl, u, by rw [Hend.out]; exact hP⟩
end Go.Zz
