/- Solutions of an equation: the program's closure try. -/
import Derived.Test.YtpjpfpmapdjnaaaGr13
import Derived.Laws.EntriesVeiled
import Derived.StillTailTactics
import Derived.Test.YtpjpfpmapdjnaaaGr6
import Derived.Deep.AppendLies
import Derived.Test.YtpjpfpmapdjnaaaGr12
namespace Go.Zz
open Go.RowKit Go.Proofs
set_option maxHeartbeats 2000000
set_option maxRecDepth 8000

/-- the row of m numbers, of which the first are those of X -/
def RowX (bR m : Nat) (X : List Nat) (w : World) : Prop := ∃ Z : List Int, Z.length = m ∧ Z.take X.length = castL X ∧ Blk w bR 3 (Z.map (Value.int .i64)).toArray
theorem RowX.ext {bR m : Nat} {X : List Nat} {w w' : World} (h : RowX bR m X w) (hE : Ext w w') : RowX bR m X w' := by
  obtain ⟨Z, h1, h2, h3⟩ := h; exact ⟨Z, h1, h2, h3.ext hE⟩
theorem RowX.free {bR m : Nat} {X : List Nat} {w : World} (h : RowX bR m X w) (i : Nat) : w.frozen? ⟨bR, i, none⟩ = false := by
  obtain ⟨Z, h1, h2, h3⟩ := h; exact h3.free i
theorem RowX.has {bR m : Nat} {X : List Nat} {w : World} (h : RowX bR m X w) {i : Nat} (hi : i < m) : ∃ v, w.cell? ⟨bR, i, none⟩ = some v := by
  obtain ⟨Z, h1, h2, h3⟩ := h; exact ⟨.int .i64 (nth Z i), h3.cell (i := i) (by simp [nth, List.getD, show i < Z.length by omega])⟩
theorem RowX.set {bR m : Nat} {X : List Nat} {w : World} (h : RowX bR m X w) (hX : X.length < m) (y : Nat) : RowX bR m (X ++ [y]) (w.setCell ⟨bR, X.length, none⟩ (.int .i64 (y : Int))) := by
  obtain ⟨Z, h1, h2, h3⟩ := h
  refine ⟨Z.set X.length (y : Int), by simpa using h1, ?_, ?_⟩
  · rw [List.length_append, List.length_singleton, castL_snoc, ← h2, List.take_succ_eq_append_getElem (by simp; omega)]
    simp [List.take_set_of_le]
  · have := h3.set X.length (.int .i64 (y : Int))
    simpa [List.map_set] using this
theorem RowX.back {bR m : Nat} {X : List Nat} {w : World} {y : Nat} (h : RowX bR m (X ++ [y]) w) : RowX bR m X w := by
  obtain ⟨Z, h1, h2, h3⟩ := h
  refine ⟨Z, h1, ?_, h3⟩
  have := congrArg (List.take X.length) h2
  rw [List.take_take, castL_snoc] at this
  simp at this
  rw [this]
  have e : (castL X).length = X.length := castL_len X
  rw [← e]; simp
theorem RowX.ints {bR m : Nat} {X : List Nat} {w : World} (h : RowX bR m X w) (hX : X.length = m) (hm : m ≤ 1000) : Ints w (.slice (some ⟨bR, 0, none⟩) m m) (castL X) := by
  obtain ⟨Z, h1, h2, h3⟩ := h
  have hZ : Z = castL X := by rw [← h2, List.take_of_length_le (by omega)]
  subst hZ
  refine ⟨_, m, by rw [h1], by omega, by omega, fun i hi => ⟨_, rfl, ?_⟩⟩
  rw [Addr.add_lit, Nat.zero_add]
  exact h3.cell (i := i) (by simp [nth, List.getD, hi])
end Go.Zz

/- SolutionsIn of the program. -/
namespace Go.Zz
open Go.RowKit Go.Proofs
set_option maxHeartbeats 2000000
set_option maxRecDepth 8000

theorem OwnV.set_ne {w0 w : World} {v : Value} {n : Nat} (h : OwnV w0 w v n) {b i : Nat} (hp : v.ownBlock ≠ some b) (u : Value) : OwnV w0 (w.setCell ⟨b, i, none⟩ u) v n := by
  obtain ⟨L, h1, h2, h3, h4⟩ := h
  refine ⟨L, h1, h2, ⟨h3.1, ?_⟩, h4⟩
  rcases h3.2 with h | ⟨g, cap, cur, rfl, hg, hh, rest⟩
  · exact Or.inl h
  · refine Or.inr ⟨g, cap, cur, rfl, hg, ?_, rest⟩
    simp [Value.ownBlock] at hp
    rw [Below.heap_setCell _ _ _ _ (fun e => hp e)]; exact hh
theorem OwnV.not {T : TypeId} {w0 w : World} {v : Value} {n : Nat} (h : OwnV w0 w v n) {g : Nat} {cs : Array Value} (hB : Blk w g T cs) (hT : T ≠ 22) : v.ownBlock ≠ some g := fun e => by
  obtain ⟨L, -, -, h1, -⟩ := h
  rcases h1.2 with ⟨rfl, _⟩ | ⟨g', cap, cur, rfl, _, hh, _⟩
  · cases e
  · simp [Value.ownBlock] at e
    subst e
    have hB' : w.heap[g']? = some (.cells cs T (0, 0)) := hB
    rw [hB'] at hh
    simp at hh
    exact hT hh.2
theorem ExtGo {w w1 w2 : World} {o : Option Nat} (e : Ext w w1) (hg : w1.grownBy w2 o) : w.grownBy w2 o := by
  exact ⟨hg.os.trans e.os, hg.tape.trans e.tape, hg.output.trans e.output, Nat.le_trans e.size hg.size, fun i hi hne => by rw [hg.block i (Nat.lt_of_lt_of_le hi e.size) hne]; exact e.block i hi⟩
/-- a made row as a block -/
theorem own_blk {w0 w : World} {g n : Nat} {l : List Int} (h : Own 3 w0 w (.slice (some ⟨g, 0, none⟩) n n) l) (hn : l.length = n) (h0 : 0 < n) : Blk w g 3 (l.map (Value.int .i64)).toArray := by
  obtain ⟨⟨h1, h2⟩, -⟩ := h
  rcases h2 with ⟨hv, -⟩ | ⟨g', cap, cur, hv, hg, hh, hnc, hcm, hcs, htk⟩
  · simp at hv
  · simp only [Value.slice.injEq, Option.some.injEq, Addr.mk.injEq, and_true] at hv
    obtain ⟨rfl, -, rfl⟩ := hv
    have e : cur = (l.map (Value.int .i64)).toArray := by
      apply Array.toList_inj.1
      rw [← htk, List.take_of_length_le (by simp [hcs]; omega)]
    rw [← e]; exact hh
theorem row_made {w : World} {g m : Nat} (h : Blk w g 3 ((List.replicate m (0 : Int)).map (Value.int .i64)).toArray) : RowX g m [] w := ⟨List.replicate m 0, by simp, by simp [castL], h⟩
end Go.Zz

/- The number of automorphisms: the program's closure. -/
namespace Go.Zz
open Go.RowKit Go.Proofs
set_option maxHeartbeats 4000000
set_option maxRecDepth 8000

theorem row_at {bR m : Nat} {X : List Nat} {w : World} (h : RowX bR m X w) (hX : X.length = m) {i : Nat} (hi : i < m) : ∀ W, Ext w W → W.cell? ⟨bR, i, none⟩ = some (.int .i64 (nthN X i)) := by
  intro W hW
  obtain ⟨Z, h1, h2, h3⟩ := h.ext hW
  have hZ : Z = castL X := by rw [← h2, List.take_of_length_le (by omega)]
  subst hZ
  refine h3.cell (i := i) ?_
  rw [← nth_castL]
  simp [nth, List.getD, show i < (castL X).length by omega]
theorem row_ix (bR m : Nat) : ∀ (i : Nat) W, i < m → (Instr.indexAt 22 (.slice (some ⟨bR, 0, none⟩) m m) (.int .i64 (i : Int))).run Try.prog W = .ok (.pointer (some ⟨bR, i, none⟩)) W := fun i W hi => by
  rw [run_indexAt_slice (h := elI), if_pos (by omega), szI]
  simp [Result.andThen, Addr.add_lit]
/-- what the closure keeps -/
def AutS (w0 : World) (m bI bG bT bO k : Nat) (bR : Nat) (w : World) : Prop :=
  Ext w0 w ∧ Blk w bI 22 #[.slice (some ⟨bR, 0, none⟩) m m] ∧ Blk w bT 62 #[.func (.func 58) #[] #[.pointer (some ⟨bI, 0, none⟩), .pointer (some ⟨bG, 0, none⟩), .pointer (some ⟨bT, 0, none⟩), .pointer (some ⟨bO, 0, none⟩)]] ∧
    ∃ vo, Blk w bO 48 #[vo] ∧ OwnV w0 w vo k ∧ (∀ g, vo.ownBlock = some g → g ≠ bI)
theorem AutS.ext {w0 w W : World} {m bI bG bT bO k bR : Nat} (h : AutS w0 m bI bG bT bO k bR w) (hE : Ext w W) : AutS w0 m bI bG bT bO k bR W := by
  obtain ⟨h1, h2, h3, vo, h4, h5, h6⟩ := h
  exact ⟨h1.trans hE, h2.ext hE, h3.ext hE, vo, h4.ext hE, h5.ext hE, h6⟩
theorem AutS.set {w0 w : World} {m bI bG bT bO k bR : Nat} {Z : Array Value} (h : AutS w0 m bI bG bT bO k bR w) (hR : Blk w bR 3 Z) (h0 : w0.heap.size ≤ bR) (hI : bI ≠ bR) (hT : bT ≠ bR) (hO : bO ≠ bR) (i : Nat) (v : Value) : AutS w0 m bI bG bT bO k bR (w.setCell ⟨bR, i, none⟩ v) := by
  obtain ⟨h1, h2, h3, vo, h4, h5, h6⟩ := h
  exact ⟨h1.setCell h0 _, h2.other hI _, h3.other hT _, vo, h4.other hO _, h5.set_ne (h5.not hR (by decide)) _, h6⟩
theorem autLeaf_any (v : Value) (l : List Int) (Hgr : Hid (isGrp l = true)) (w0 : World) (bI bG bT bO bR : Nat) (HG : ∀ W, Ext w0 W → W.cell? ⟨bG, 0, none⟩ = some v) (HI : ∀ W, Ext w0 W → Ints W v l) (h0 : w0.heap.size ≤ bO) (hRO : bR ≠ bO) (hIO : bI ≠ bO) (hTO : bT ≠ bO)
    (X : List Nat) (k : Nat) (w : World) (hX : X.length = l.length) (hXo : ∀ x ∈ X, x < ord l) (hk : k < 1000000) (hst : AutS w0 l.length bI bG bT bO k bR w) (hrow : RowX bR l.length X w) :
    Calls Try.prog 58 #[.int .i64 X.length, .pointer (some ⟨bI, 0, none⟩), .pointer (some ⟨bG, 0, none⟩), .pointer (some ⟨bT, 0, none⟩), .pointer (some ⟨bO, 0, none⟩)] w fun e w' =>
      e = .returned (.tuple #[]) ∧ RowX bR l.length X w' ∧ AutS w0 l.length bI bG bT bO (k + autT l 0 X) bR w' := by
  have HRow := Lib.hid (fun i (hi : i < l.length) => row_at hrow hX hi)
  have hixR := row_ix bR l.length
  have HS := Lib.hid hst
  have HR := Lib.hid hrow
  obtain ⟨hE00, hbI, -, -⟩ := hst
  have hI : ∀ W, Ext w W → W.cell? ⟨bI, 0, none⟩ = some (.slice (some ⟨bR, 0, none⟩) l.length l.length) := fun W hW => (hbI.ext hW).cell (i := 0) rfl
  have hG : ∀ W, Ext w W → W.cell? ⟨bG, 0, none⟩ = some v := fun W hW => HG W (hE00.trans hW)
  have hg : ∀ W, Ext w W → Ints W v l := fun W hW => HI W (hE00.trans hW)
  have hXl : ((X.length : Nat) : Int) = ((l.length : Nat) : Int) := by omega
  have HXl := Lib.hid hXl
  have hob := ord_bd Hgr.out
  have hl3 := isGrp_len Hgr.out
  have HXo := Lib.hid (fun i (hi : i < l.length) => hXo _ (nthN_mem (by omega : i < X.length)))
  have HFe := Lib.hid (extF_len l X)
  have HFl := Lib.hid (extF_lt Hgr.out X)
  have Hx : Hid (extF l X = (List.range (ord l)).map (exV l X)) := Lib.hid rfl
  have HA : Hid (autT l 0 X = if autB l (extF l X) then 1 else 0) := Lib.hid rfl
  rw [hXl]
  clear hXl hX hXo hrow hbI HG HI
  have hcI := hI w (Ext.refl w)
  have hO : Own 3 w (w.alloc (.cells #[] 3)) (.slice (some ⟨w.heap.size, 0, none⟩) 0 0) [] := own_made (by omega) (Ext.refl w) [] rfl
  have hE : Ext w (w.alloc (.cells #[] 3)) := (Ext.refl w).alloc _
  have hGc := hG _ hE
  have cO := fun W (hW : Ext w W) => OrderOf_grp v l W (hg W hW) Hgr
  go_enter Try.func58, Try.ntmps58
  go_wp2_with (go_at_call 26; refine (cO _ hE).mono ?_; rintro e w1 ⟨rfl, hE1⟩)
  replace hO := hO.ext hE1
  replace hE := hE.trans hE1
  clear hE1 hGc hcI
  go_loopw [7, 33] (fun sv sx wr => ∃ x : Nat, x ≤ ord l ∧ sx = .int .i64 x ∧ Own 3 w wr sv (castL ((List.range x).map (exV l X))) ∧ Ext w wr) (fun _ sx _ => ord l - (intOf sx).toNat)
  case atStart => exact ⟨0, by omega, rfl, hO, hE⟩
  case round =>
    clear hE hO
    obtain ⟨x, hx, rfl, hO, hE⟩ := hrel
    have hGx := hG _ hE
    have hAl : (castL ((List.range x).map (exV l X))).length < 17592186044416 := by rw [castL_len, List.length_map, List.length_range]; omega
    by_cases hlt : x < ord l
    · have hltI : (x : Int) < (ord l : Int) := by omega
      have hPl := plP_len l x l.length
      have HPx := Lib.hid (fun i (hi : i < l.length) => plP_nth_le l x hi)
      have Hv : Hid (exV l X x = lcT l X (plP l x l.length) l.length) := Lib.hid rfl
      have cP := fun W (hW : Ext w W) => places_any v l x W (hg W hW) Hgr (by omega)
      obtain ⟨P, hP⟩ : ∃ P, P = plP l x l.length := ⟨_, rfl⟩
      rw [← hP] at hPl Hv
      simp only [← hP] at cP HPx
      have HPl := Lib.hid hPl
      clear hP hPl
      have Hs : Hid ((List.range (x + 1)).map (exV l X) = (List.range x).map (exV l X) ++ [exV l X x]) := Lib.hid (extF_take l X)
      obtain ⟨A, hA⟩ : ∃ A, A = (List.range x).map (exV l X) := ⟨_, rfl⟩
      rw [← hA] at hO hAl Hs
      clear hA
      go_wp2_with (go_at_call 59; refine (cP _ hE).mono ?_; rintro e w2 ⟨vp, rfl, hOp, hE2⟩; obtain ⟨aoP, cP2, adrP, rfl, hadrP, hcellP⟩ := hOp.ints.nats; have hixP := ints_index (c := cP2) elI szI hadrP; clear hadrP)
      have hE02 := hE.trans hE2
      have hO2 := hO.ext hE2
      clear hE hO hGx hOp hE2
      have hEs := Ext.refl w2
      go_loopw [9, 40] (fun sz si wq => ∃ i : Nat, i ≤ l.length ∧ si = .int .i64 i ∧ sz = .int .i64 (lcT l X P i : Nat) ∧ Ext w2 wq) (fun _ si _ => P.length - (intOf si).toNat)
      case atStart => exact ⟨0, by omega, rfl, rfl, hEs⟩
      case round =>
        clear hEs
        obtain ⟨i, hi, rfl, rfl, hEs⟩ := hrel
        by_cases hiP : i < P.length
        · have hitI : (i : Int) < (P.length : Int) := by omega
          have hit : i < l.length := by have := HPl.out; omega
          have kR := fun U => HRow.out i hit _ (hE02.trans (hEs.trans (lat_ext wr U)))
          have kI := fun U => hI _ (hE02.trans (hEs.trans (lat_ext wr U)))
          have kP := hcellP i _ hiP hEs
          have kb := fun U => hG _ (hE02.trans (hEs.trans (lat_ext wr U)))
          have hXi := HXo.out i hit
          have hPi := HPx.out i hit
          have hT := lcT_lt Hgr.out X P i
          have hM := mulF_lt Hgr.out (nthN X i) (nthN P i)
          have m1 := fun U => times_any v l (nthN X i) (nthN P i) _ (hg _ (hE02.trans (hEs.trans (lat_ext wr U)))) Hgr (by omega) (by omega)
          have a1 := fun U => add_any v l (lcT l X P i) (mulF l (nthN X i) (nthN P i)) _ (hg _ (hE02.trans (hEs.trans (lat_ext wr U)))) Hgr (by omega) (by omega)
          have Hn : Hid (lcT l X P (i + 1) = addF l (lcT l X P i) (mulF l (nthN X i) (nthN P i))) := Lib.hid rfl
          have hEb := hEs
          clear hEs
          have hE := Ext.refl wr
          go_wp2_with fail
          (refine wp_region_lat (wr) (by kernel_rfl) (by kernel_rfl) hE ?_); (repeat (go_big_quiet_step (first | (go_at_call 61; with_reducible exact Calls.lat (m1 _)) | (go_at_call 60; with_reducible exact Calls.lat (a1 _))))); (refine wpQuiet_nil ?_); (intro W hE'); (replace hE := lat_of hE'); (clear hE')
          go_wp2_with fail
          go_roundw
          case rel => exact ⟨i + 1, by omega, by go_num, by rw [Hn.out], hEb.trans hE⟩
          case measure => (simp [intOf]; omega)
        · have hil : i = l.length := by have := HPl.out; omega
          have hitI : ¬ (i : Int) < (P.length : Int) := by omega
          have hO3 := hO2.ext hEs
          have hE3 := hE02.trans hEs
          have HitI := Lib.hid hitI
          clear hitI hiP
          rw [hil, ← Hv.out]
          rw [hil] at HitI
          have hitI := HitI.out
          clear hil hi
          obtain ⟨z, hz⟩ : ∃ z, z = exV l X x := ⟨_, rfl⟩
          rw [← hz] at Hs ⊢
          clear hz
          go_wp2_with (at_builtin; refine wp_append1 slI rfl _ _ rfl w _ _ _ _ hO3 hE3 hAl rfl rfl ?_; intro v1 w1 hO1 hE1)
          go_roundw
          case rel => exact ⟨x + 1, by omega, by go_num, by rw [Hs.out, castL_snoc]; exact hO1, hE1⟩
          case measure => (simp [intOf]; omega)
    · have hltI : ¬ (x : Int) < (ord l : Int) := by omega
      have hxl : x = ord l := by omega
      rw [hxl, ← Hx.out] at hO
      clear hAl hxl hx hlt
      obtain ⟨F, hF⟩ : ∃ F, F = extF l X := ⟨_, rfl⟩
      rw [← hF] at hO HFe HFl HA
      clear hF
      have cA := IsAutomorphism_list _ l _ F wr (hg _ hE) hO.ints Hgr HFe.out HFl.out
      obtain ⟨aoF, cF, rfl, -⟩ := hO.shape
      have hS := HS.out.ext hE
      have hRw := HR.out.ext hE
      cases ha : autB l F
      · have HA2 : Hid (autT l 0 X = 0) := Lib.hid (by rw [HA.out, ha]; rfl)
        rw [ha] at cA
        clear ha
        go_wp2_with (go_at_call 62; refine cA.mono ?_; rintro e w5 ⟨rfl, hE5⟩)
        go_end0
        exact ⟨rfl, hRw.ext hE5, by rw [HA2.out]; exact hS.ext hE5⟩
      · have HA2 : Hid (autT l 0 X = 1) := Lib.hid (by rw [HA.out, ha]; rfl)
        rw [ha] at cA
        clear ha
        obtain ⟨s1, s2, s3, vo, s4, s5, s6⟩ := hS
        obtain ⟨aoO, cO2, rfl, -⟩ := s5.shape
        have hob := s5.not s4 (by decide)
        have hobT := s5.not s3 (by decide)
        have hne : ∀ g, (Value.slice aoO k cO2).ownBlock = some g → g ≠ bO := fun g hg e => hob (by rw [hg, e])
        have hneT : ∀ g, (Value.slice aoO k cO2).ownBlock = some g → g ≠ bT := fun g hg e => hobT (by rw [hg, e])
        have hneR : ∀ g, (Value.slice aoO k cO2).ownBlock = some g → g ≠ bR := fun g hg e => by
          obtain ⟨Z, -, -, hZ⟩ := hRw
          exact s5.not hZ (by decide) (by rw [hg, e])
        have kO : ∀ W, Ext wr W → W.cell? ⟨bO, 0, none⟩ = some (.slice aoO k cO2) := fun W hW => (s4.ext hW).cell (i := 0) rfl
        have Hhob := Lib.hid hob
        clear hob hobT
        go_wp2_with (first | (go_at_call 62; refine cA.mono ?_; rintro e w5 ⟨rfl, hE5⟩; have kO5 := kO _ hE5; have hO5 := s5.ext hE5; have hB5 := s4.ext hE5; have hE05 := s1.trans hE5; have kO6 := kO _ (hE5.alloc (.cells #[.slice aoF (castL F).length cF] 22))) | (at_builtin; refine wp_append1V rfl _ _ rfl w0 _ _ k _ _ _ hO5 hE05 hk rfl rfl ?_; intro v6 w6 hO6 hG6 hN6; obtain ⟨a6, c6, rfl, -⟩ := hO6.shape; have hB6 := hB5.grown hG6 hne; have hc6 := hB6.cell (i := 0) (v := .slice aoO k cO2) rfl; have hf6 := hB6.free 0))
        go_end0
        have hE06 : Ext w0 w6 := hE05.grown hG6 (fun g hg => (hO5.blk g hg).1)
        have hI6 := (s2.ext hE5).grown hG6 s6
        have hT6 := (s3.ext hE5).grown hG6 hneT
        refine ⟨rfl, ?_, ?_⟩
        · obtain ⟨Z, z1, z2, hZ⟩ := hRw.ext hE5
          exact ⟨Z, z1, z2, (hZ.grown hG6 hneR).other (by simpa using hRO) _⟩
        · rw [HA2.out]
          refine ⟨hE06.setCell h0 _, hI6.other (by simpa using hIO) _, hT6.other (by simpa using hTO) _, _, hB6.set 0 _, hO6.set_ne (hO6.not hB6 (by decide)) _, ?_⟩
          intro g hg
          rcases hN6 with hN | hN
          · exact s6 g (by rw [← hN]; exact hg)
          · have h1 := hN g hg
            have h2 := (s2.ext hE5).lt
            omega
theorem autTry_any (v : Value) (l : List Int) (Hgr : Hid (isGrp l = true)) (w0 : World) (bI bG bT bO bR : Nat) (HG : ∀ W, Ext w0 W → W.cell? ⟨bG, 0, none⟩ = some v) (HI : ∀ W, Ext w0 W → Ints W v l) (h0 : w0.heap.size ≤ bO) (h0R : w0.heap.size ≤ bR) (hRO : bR ≠ bO) (hIO : bI ≠ bO) (hTO : bT ≠ bO) (hIR : bI ≠ bR) (hTR : bT ≠ bR) :
    ∀ r X k w, X.length + r = l.length → (∀ x ∈ X, x < ord l) → k + autT l r X ≤ 729 → AutS w0 l.length bI bG bT bO k bR w → RowX bR l.length X w →
    Calls Try.prog 58 #[.int .i64 X.length, .pointer (some ⟨bI, 0, none⟩), .pointer (some ⟨bG, 0, none⟩), .pointer (some ⟨bT, 0, none⟩), .pointer (some ⟨bO, 0, none⟩)] w fun e w' =>
      e = .returned (.tuple #[]) ∧ RowX bR l.length X w' ∧ AutS w0 l.length bI bG bT bO (k + autT l r X) bR w' := by
  intro r
  induction r with
  | zero =>
    intro X k w hr hX hkK hst hrow
    exact autLeaf_any v l Hgr w0 bI bG bT bO bR HG HI h0 hRO hIO hTO X k w (by omega) hX (by omega) hst hrow
  | succ r ih =>
    intro X k w hr hX hkK hst hrow
    have HkK := Lib.hid hkK
    have Hih := Lib.hid ih
    have HX := Lib.hid hX
    have hob := ord_bd Hgr.out
    have hl3 := isGrp_len Hgr.out
    have hlt : X.length < l.length := by omega
    have hr2 := Lib.hid hr
    have HA : Hid (autT l (r + 1) X = sumN (fun x => autT l r (X ++ [x])) (ord l)) := Lib.hid rfl
    clear hkK ih hX hr
    have hg := fun W (hW : Ext w W) => HI W (hst.1.trans hW)
    have hcG := HG w hst.1
    have hcI : w.cell? ⟨bI, 0, none⟩ = some (.slice (some ⟨bR, 0, none⟩) l.length l.length) := hst.2.1.cell (i := 0) rfl
    have cO := OrderOf_grp v l w (HI w hst.1) Hgr
    have hltI : ((X.length : Nat) : Int) < ((l.length : Nat) : Int) := by omega
    have hixR := row_ix bR l.length
    have HS := Lib.hid hst
    have HR := Lib.hid hrow
    clear hst hrow
    go_enter Try.func58, Try.ntmps58
    go_wp2_with (go_at_call 26; refine cO.mono ?_; rintro e w1 ⟨rfl, hE1⟩)
    have hS1 := HS.out.ext hE1
    have hR1 := HR.out.ext hE1
    clear hcG hcI
    go_loopw [18] (fun sq wr => ∃ q : Nat, q ≤ ord l ∧ sq = .int .i64 q ∧ RowX bR l.length X wr ∧ AutS w0 l.length bI bG bT bO (k + sumN (fun x => autT l r (X ++ [x])) q) bR wr) (fun sq _ => ord l - (intOf sq).toNat)
    case atStart => exact ⟨0, by omega, rfl, hR1, hS1⟩
    case round =>
      clear hS1 hR1
      obtain ⟨q, hq, rfl, hrow, hst⟩ := hrel
      by_cases hqt : q < ord l
      · have hqtI : (q : Int) < (ord l : Int) := by omega
        have hcI : wr.cell? ⟨bI, 0, none⟩ = some (.slice (some ⟨bR, 0, none⟩) l.length l.length) := hst.2.1.cell (i := 0) rfl
        obtain ⟨vz, kz⟩ := hrow.has hlt
        have hfz := hrow.free X.length
        have hrow1 := hrow.set hlt q
        have hst1 : AutS w0 l.length bI bG bT bO (k + sumN (fun x => autT l r (X ++ [x])) q) bR (wr.setCell ⟨bR, X.length, none⟩ (.int .i64 (q : Int))) := by
          obtain ⟨Z, -, -, hZ⟩ := hrow
          exact hst.set hZ h0R hIR hTR (fun e => hRO e.symm) _ _
        have hcT : (wr.setCell ⟨bR, X.length, none⟩ (.int .i64 (q : Int))).cell? ⟨bT, 0, none⟩ = some (.func (.func 58) #[] #[.pointer (some ⟨bI, 0, none⟩), .pointer (some ⟨bG, 0, none⟩), .pointer (some ⟨bT, 0, none⟩), .pointer (some ⟨bO, 0, none⟩)]) := hst1.2.2.1.cell (i := 0) rfl
        have hix := hixR X.length wr hlt
        have hwl : IntKind.i64.wrap (((X.length : Nat) : Int) + 1) = ((X.length : Nat) : Int) + 1 := IntWalk.i64_in _ (by omega)
        have HKq : k + sumN (fun x => autT l r (X ++ [x])) q + autT l r (X ++ [q]) ≤ 729 := by
          have h1 := HkK.out
          rw [HA.out] at h1
          have h2 := sumN_mono (fun x => autT l r (X ++ [x])) (q + 1) (ord l - (q + 1))
          rw [show q + 1 + (ord l - (q + 1)) = ord l by omega] at h2
          have h3 : sumN (fun x => autT l r (X ++ [x])) (q + 1) = sumN (fun x => autT l r (X ++ [x])) q + autT l r (X ++ [q]) := rfl
          omega
        have cR := Hih.out (X ++ [q]) _ _ (by rw [List.length_append, List.length_singleton]; have := hr2.out; omega) (fun x hx => by
          rw [List.mem_append, List.mem_singleton] at hx
          rcases hx with hx | rfl
          · exact HX.out x hx
          · exact hqt) HKq hst1 hrow1
        rw [show (((X ++ [q]).length : Nat) : Int) = ((X.length : Nat) : Int) + 1 by rw [List.length_append, List.length_singleton]; omega] at cR
        have Hn : Hid (k + sumN (fun x => autT l r (X ++ [x])) (q + 1) = k + sumN (fun x => autT l r (X ++ [x])) q + autT l r (X ++ [q])) := Lib.hid (by rw [Nat.add_assoc]; rfl)
        clear hst hrow hst1 hrow1 HKq
        go_wp2_with (go_at_call 58; refine cR.mono ?_; rintro e w2 ⟨rfl, hR2, hS2⟩)
        go_roundw
        case rel => exact ⟨q + 1, by omega, by go_num, hR2.back, by rw [Hn.out]; exact hS2⟩
        case measure => (simp [intOf]; omega)
      · have hqn : q = ord l := by omega
        have hqtI : ¬ (q : Int) < (ord l : Int) := by omega
        go_wp2_with fail
        exact bodyPost_ret (v := .tuple #[]) (by simp [results, Try.results58, go_sem]) rfl ⟨rfl, hrow, by rw [HA.out, ← hqn]; exact hst⟩
end Go.Zz

/- The number of automorphisms: the program. -/
namespace Go.Zz
open Go.RowKit Go.Proofs
set_option maxHeartbeats 4000000
set_option maxRecDepth 8000

theorem own_blk0 {w0 w : World} {g n : Nat} {l : List Int} (h : Own 3 w0 w (.slice (some ⟨g, 0, none⟩) n n) l) (hn : l.length = n) : Blk w g 3 (l.map (Value.int .i64)).toArray := by
  obtain ⟨⟨h1, h2⟩, -⟩ := h
  rcases h2 with ⟨hv, -⟩ | ⟨g', cap, cur, hv, hg, hh, hnc, hcm, hcs, htk⟩
  · simp at hv
  · simp only [Value.slice.injEq, Option.some.injEq, Addr.mk.injEq, and_true] at hv
    obtain ⟨rfl, -, rfl⟩ := hv
    have e : cur = (l.map (Value.int .i64)).toArray := by
      apply Array.toList_inj.1
      rw [← htk, List.take_of_length_le (by simp [hcs]; omega)]
    rw [← e]; exact hh
theorem AutomorphismsOf_no (v : Value) (l : List Int) (w : World) (h : Ints w v l) (hn : auB l = false) :
    Calls Try.prog 47 #[.agg #[v]] w fun e w' => ∃ v', e = .returned (.tuple #[v', .bool false]) ∧ Ext w w' := by
  have hg0 := h
  obtain ⟨wb, hwb⟩ : ∃ wb, wb = w.alloc (.cells #[v] 27) := ⟨_, rfl⟩
  have hE0 := (Ext.refl w).alloc (.cells #[v] 27)
  have hb := box_cell w v 27
  rw [← hwb] at hE0 hb
  have hg : ∀ W, Ext wb W → Ints W v l := fun W hW => h.ext (hE0.trans hW)
  have hE := Ext.refl wb
  have Hsz : Hid (w.heap.size + 1 = wb.heap.size) := Lib.hid (by rw [hwb]; simp [go_sem])
  have Hwb := Lib.hid hwb
  clear hwb h
  have cG := fun W (hW : Ext wb W) => IsGroup_any v l W (hg W hW)
  have hE1 := (hE.alloc (.cells #[] 22)).alloc (.cells #[.slice (some ⟨wb.heap.size, 0, none⟩) 0 0] 48)
  have hb1 := hb _ hE1
  have kO : ((wb.alloc (.cells #[] 22)).alloc (.cells #[.slice (some ⟨wb.heap.size, 0, none⟩) 0 0] 48)).cell? ⟨(wb.alloc (.cells #[] 22)).heap.size, 0, none⟩ = some (.slice (some ⟨wb.heap.size, 0, none⟩) 0 0) := (Blk.new _ _ _).cell (i := 0) rfl
  have hs1 : (wb.alloc (.cells #[] 22)).heap.size = wb.heap.size + 1 := by simp
  rw [hs1] at kO
  clear hs1
  obtain ⟨wc, hwc⟩ : ∃ wc, wc = (wb.alloc (.cells #[] 22)).alloc (.cells #[.slice (some ⟨wb.heap.size, 0, none⟩) 0 0] 48) := ⟨_, rfl⟩
  rw [← hwc] at hE1 hb1 kO
  have Hwc := Lib.hid hwc
  clear hwc
  have kO2 := fun W (hW : Ext wc W) => hW.cell kO
  cases hgr : isGrp l
  · rw [hgr] at cG
    go_enter Try.func47, Try.ntmps47
    go_wp2_with fail
    rw [← Hwb.out]; rw [Hsz.out]; rw [← Hwc.out]
    go_wp2_with (go_at_call 21; refine (cG _ hE1).mono ?_; rintro e w1 ⟨rfl, hE2⟩; have hb2 := hb _ (hE1.trans hE2); have kO3 := kO2 _ hE2)
    exact bodyPost_ret (v := .tuple #[.slice (some ⟨wb.heap.size, 0, none⟩) 0 0, .bool false]) (by simp [results, Try.results47, go_sem]) rfl ⟨_, rfl, hE0.trans (hE1.trans hE2)⟩
  · rw [hgr] at cG
    have Hgr := Lib.hid hgr
    have h9 : ¬ (ord l ≤ 9) := by
      intro h9; unfold auB at hn; rw [hgr, decide_eq_true h9] at hn; cases hn
    have h9I : (9 : Int) < (ord l : Int) := by omega
    have cO := fun W (hW : Ext wb W) => OrderOf_grp v l W (hg W hW) Hgr
    clear hgr hn
    go_enter Try.func47, Try.ntmps47
    go_wp2_with fail
    rw [← Hwb.out]; rw [Hsz.out]; rw [← Hwc.out]
    go_wp2_with (first | (go_at_call 21; refine (cG _ hE1).mono ?_; rintro e w1 ⟨rfl, hE2⟩; have hE12 := hE1.trans hE2; have hb2 := hb _ hE12) | (go_at_call 26; refine (cO _ hE12).mono ?_; rintro e w3 ⟨rfl, hE3⟩; have kO3 := kO2 _ (hE2.trans hE3)))
    exact bodyPost_ret (v := .tuple #[.slice (some ⟨wb.heap.size, 0, none⟩) 0 0, .bool false]) (by simp [results, Try.results47, go_sem]) rfl ⟨_, rfl, hE0.trans (hE12.trans hE3)⟩
theorem AutomorphismsOf_yes (v : Value) (l : List Int) (w : World) (h : Ints w v l) (hn : auB l = true) :
    Calls Try.prog 47 #[.agg #[v]] w fun e w' => ∃ v', e = .returned (.tuple #[v', .bool true]) ∧ OwnV w w' v' (autT l l.length []) ∧ Ext w w' := by
  have hop := h.op
  have hg0 := h
  obtain ⟨wb, hwb⟩ : ∃ wb, wb = w.alloc (.cells #[v] 27) := ⟨_, rfl⟩
  have hE0 := (Ext.refl w).alloc (.cells #[v] 27)
  have hb := box_cell w v 27
  rw [← hwb] at hE0 hb
  have hg : ∀ W, Ext wb W → Ints W v l := fun W hW => h.ext (hE0.trans hW)
  have hE := Ext.refl wb
  have Hsz : Hid (w.heap.size + 1 = wb.heap.size) := Lib.hid (by rw [hwb]; simp [go_sem])
  have Hwb := Lib.hid hwb
  clear hwb h
  obtain ⟨ao, c, adr, rfl, hlen, hadr, hcell⟩ := hop
  clear hadr hcell
  obtain ⟨hgr, h9⟩ : isGrp l = true ∧ ord l ≤ 9 := by unfold auB at hn; simpa using hn
  have Hgr := Lib.hid hgr
  have hl3 := isGrp_len hgr
  have hob := ord_bd hgr
  have Hle : Hid (autT l l.length [] ≤ 729) := Lib.hid (Nat.le_trans (autT_le l l.length []) (pow9 h9 hl3))
  have cG := fun W (hW : Ext wb W) => IsGroup_any _ l W (hg W hW)
  rw [hgr] at cG
  clear hgr hn
  have cO := fun W (hW : Ext wb W) => OrderOf_grp _ l W (hg W hW) Hgr
  have h9I : ¬ (9 : Int) < (ord l : Int) := by omega
  have hO0 : OwnV wb (wb.alloc (.cells #[] 22)) (.slice (some ⟨wb.heap.size, 0, none⟩) 0 0) 0 := ownV_made hE
  have hE1 := (hE.alloc (.cells #[] 22)).alloc (.cells #[.slice (some ⟨wb.heap.size, 0, none⟩) 0 0] 48)
  have hb1 := hb _ hE1
  have hs1 : (wb.alloc (.cells #[] 22)).heap.size = wb.heap.size + 1 := by simp
  have B1 : Blk ((wb.alloc (.cells #[] 22)).alloc (.cells #[.slice (some ⟨wb.heap.size, 0, none⟩) 0 0] 48)) (wb.heap.size + 1) 48 #[.slice (some ⟨wb.heap.size, 0, none⟩) 0 0] := by rw [← hs1]; exact Blk.new _ _ _
  have hO1 := hO0.ext ((Ext.refl _).alloc (.cells #[.slice (some ⟨wb.heap.size, 0, none⟩) 0 0] 48))
  obtain ⟨wc, hwc⟩ : ∃ wc, wc = (wb.alloc (.cells #[] 22)).alloc (.cells #[.slice (some ⟨wb.heap.size, 0, none⟩) 0 0] 48) := ⟨_, rfl⟩
  rw [← hwc] at hE1 hb1 B1 hO1
  have Hwc := Lib.hid hwc
  clear hwc hO0 hs1
  have hmf : ∀ (fn : Fn) (first cap : Array Value) (w : World), (Instr.makeFunc fn first cap).run Try.prog w = .ok (.func fn first cap) w := fun _ _ _ _ => rfl
  go_enter Try.func47, Try.ntmps47
  go_wp2_with fail
  rw [← Hwb.out]; rw [Hsz.out]; rw [← Hwc.out]
  go_wp2_with (first | (go_at_call 21; refine (cG _ hE1).mono ?_; rintro e w1 ⟨rfl, hE2⟩; have hE12 := hE1.trans hE2; have hb2 := hb _ hE12) | (go_at_call 26; refine (cO _ hE12).mono ?_; rintro e w3 ⟨rfl, hE3⟩; have hE13 := hE12.trans hE3; have hb3 := hb _ hE13) | (at_make; refine wp_make_ints slI rfl _ _ rfl _ _ l.length rfl rfl (by omega) (Ext.refl _) ?_; intro w4 hO4 hE4))
  obtain ⟨w5, h5⟩ : ∃ x, x = w4.alloc (.cells #[.slice (some ⟨w3.heap.size, 0, none⟩) l.length l.length] 22) := ⟨_, rfl⟩
  obtain ⟨w6, h6⟩ : ∃ x, x = w5.alloc (.cells #[.func (.func 58) #[] #[.pointer (some ⟨w4.heap.size, 0, none⟩), .pointer (some ⟨w.heap.size, 0, none⟩), .pointer (some ⟨w4.heap.size + 1, 0, none⟩), .pointer (some ⟨wb.heap.size + 1, 0, none⟩)]] 62) := ⟨_, rfl⟩
  rw [← h5, ← h6]
  have s5 : w5.heap.size = w4.heap.size + 1 := by rw [h5]; simp
  have e45 : Ext w4 w5 := by rw [h5]; exact (Ext.refl _).alloc _
  have e56 : Ext w5 w6 := by rw [h6]; exact (Ext.refl _).alloc _
  have B4 := own_blk0 hO4 (by simp)
  have B5 : Blk w5 w4.heap.size 22 #[.slice (some ⟨w3.heap.size, 0, none⟩) l.length l.length] := by rw [h5]; exact Blk.new _ _ _
  have B6 : Blk w6 (w4.heap.size + 1) 62 #[.func (.func 58) #[] #[.pointer (some ⟨w4.heap.size, 0, none⟩), .pointer (some ⟨w.heap.size, 0, none⟩), .pointer (some ⟨w4.heap.size + 1, 0, none⟩), .pointer (some ⟨wb.heap.size + 1, 0, none⟩)]] := by rw [h6, ← s5]; exact Blk.new _ _ _
  have z3 := hE13.size
  have z13 := (hE2.trans hE3).size
  have z4 := B4.lt
  have z1 := B1.lt
  have e46 := e45.trans e56
  have eW6 := hE13.trans (hE4.trans e46)
  clear h5 h6
  have cT := autTry_any _ l Hgr wb w4.heap.size w.heap.size (w4.heap.size + 1) (wb.heap.size + 1) w3.heap.size hb (fun W hW => hg W hW) (by omega) (by omega) (by omega) (by omega) (by omega) (by omega) (by omega)
    l.length [] 0 w6 (by simp) (by simp) (by have := Hle.out; omega)
    ⟨eW6, B5.ext e56, B6, _, B1.ext ((hE2.trans hE3).trans (hE4.trans e46)), hO1.ext ((hE2.trans hE3).trans (hE4.trans e46)), fun g hg => by have := (hO1.blk g hg).2; omega⟩ ((row_made B4).ext e46)
  rw [Nat.zero_add] at cT
  refine Calls.mono cT ?_
  rintro e w7 ⟨rfl, -, hS⟩
  obtain ⟨s1, -, -, vo, s4, s5', -⟩ := hS
  obtain ⟨aoO, cO2, rfl, -⟩ := s5'.shape
  have k7 := s4.cell (i := 0) (v := .slice aoO (autT l l.length []) cO2) rfl
  obtain ⟨A, hA⟩ : ∃ A, A = autT l l.length [] := ⟨_, rfl⟩
  rw [← hA] at k7 s5'
  have HA := Lib.hid hA
  clear hA cT
  go_wp2_with fail
  exact bodyPost_ret (v := .tuple #[.slice aoO A cO2, .bool true]) (by simp [results, Try.results47, go_sem]) rfl ⟨_, rfl, by rw [← HA.out]; exact s5'.mono hE0, hE0.trans s1⟩
theorem CountAutomorphisms_any (v : Value) (l : List Int) (w : World) (h : Ints w v l) :
    Calls Try.prog 30 #[.agg #[v]] w fun e w' => e = .returned (.int .i64 (if auB l then (autT l l.length [] : Int) else -1)) ∧ Ext w w' := by
  obtain ⟨wb, hwb⟩ : ∃ wb, wb = w.alloc (.cells #[v] 27) := ⟨_, rfl⟩
  have hE0 := (Ext.refl w).alloc (.cells #[v] 27)
  have hb := box_cell w v 27
  rw [← hwb] at hE0 hb
  have hg : ∀ W, Ext wb W → Ints W v l := fun W hW => h.ext (hE0.trans hW)
  have hE := Ext.refl wb
  have Hsz : Hid (w.heap.size + 1 = wb.heap.size) := Lib.hid (by rw [hwb]; simp [go_sem])
  have Hwb := Lib.hid hwb
  clear hwb h
  have hbx := hb _ hE
  cases hn : auB l
  · have cA := AutomorphismsOf_no v l wb (hg _ hE) hn
    clear hn
    go_enter Try.func30, Try.ntmps30
    go_wp2_with fail
    rw [← Hwb.out]
    go_wp2_with (go_at_call 47; refine cA.mono ?_; rintro e w3 ⟨v3, rfl, hE3⟩)
    go_ret
    exact ⟨rfl, hE0.trans hE3⟩
  · have cA := AutomorphismsOf_yes v l wb (hg _ hE) hn
    have Hle : Hid (autT l l.length [] ≤ 729) := Lib.hid (by
      have hh : isGrp l = true ∧ ord l ≤ 9 := by unfold auB at hn; simpa using hn
      exact Nat.le_trans (autT_le l _ _) (pow9 hh.2 (isGrp_len hh.1)))
    clear hn
    obtain ⟨A, hA⟩ : ∃ A, A = autT l l.length [] := ⟨_, rfl⟩
    rw [← hA] at cA ⊢
    clear hA
    go_enter Try.func30, Try.ntmps30
    go_wp2_with fail
    rw [← Hwb.out]
    go_wp2_with (go_at_call 47; refine cA.mono ?_; rintro e w3 ⟨v3, rfl, hO3, hE3⟩; obtain ⟨ao3, c3, rfl, -⟩ := hO3.shape)
    go_ret
    exact ⟨rfl, hE0.trans hE3⟩
end Go.Zz
