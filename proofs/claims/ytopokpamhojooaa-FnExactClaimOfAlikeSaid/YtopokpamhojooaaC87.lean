/- The search for an isomorphism: the reference. -/
import Derived.Test.YtopokpamhojooaaC86
import Derived.Test.YtopokpamhojooaaAf
import Derived.Test.YtopokpamhojooaaC38
import Derived.Test.YtopokpamhojooaaSt
import Derived.Deep.RegionHeld3
import Derived.WalkSpells
namespace Go.Zz
open Go.RowKit Go.Proofs
set_option maxHeartbeats 2000000
set_option maxRecDepth 8000

theorem step_build1 {ops : Array Oper} {o : Oper} {a : Act} {w : World} {K : Act → World → Prop} {Q : Exit → Act → World → Prop} {E : Prop} (hg : o.guard = none) (x : Operand) (y : Int) (hop : o.op = Op.buildSlice 22 1 #[(0, x)]) (hx : a.eval x = .int .i64 y)
    (hK : ∀ g w', Blk w' g 3 #[.int .i64 y] → w.heap.size ≤ g → Ext w w' → K (a.put o.dst (.slice (some ⟨g, 0, none⟩) 1 1)) w') :
    if Region.wanted o (yielded ops a.tmps) = true then Oper.wp Try.prog o a w K Q else E := by
  have hw : Region.wanted o (yielded ops a.tmps) = true := by simp [Region.wanted, hg]
  rw [if_pos hw]
  have := hK w.heap.size (w.alloc (.cells #[.int .i64 y] 3)) (Blk.new _ _ _) (Nat.le_refl _) ((Ext.refl w).alloc _)
  unfold Oper.wp
  simp [execOp, hop, hx]
  simp [Result.andThen, go_sem]
  exact this
theorem Ints.take {w : World} {ao : Option Addr} {n c : Nat} {l : List Int} (h : Ints w (.slice ao n c) l) {k : Nat} (hk : k ≤ l.length) : Ints w (.slice ao k c) (l.take k) := by
  obtain ⟨ao', c', hv, h1, h2, h3⟩ := h
  simp only [Value.slice.injEq] at hv
  obtain ⟨rfl, rfl, rfl⟩ := hv
  have hl : (l.take k).length = k := by rw [List.length_take]; omega
  refine ⟨ao, c, by rw [hl], by rw [hl]; omega, by rw [hl]; omega, fun i hi => ?_⟩
  rw [hl] at hi
  obtain ⟨a, ha, hc⟩ := h3 i (by omega)
  refine ⟨a, ha, ?_⟩
  rw [hc]; simp [nth, List.getD, hi]
theorem castL_take (L : List Nat) (n : Nat) : castL (L.take n) = (castL L).take n := by simp [castL]
theorem Blk.ints1 {w : World} {g : Nat} {T : TypeId} {y : Int} (h : Blk w g T #[.int .i64 y]) : Ints w (.slice (some ⟨g, 0, none⟩) 1 1) [y] := by
  refine ⟨_, 1, rfl, Nat.le_refl _, by simp, fun i hi => ⟨_, rfl, ?_⟩⟩
  match i, hi with
  | 0, _ => exact h.cell (i := 0) rfl
theorem Ints.cap {w : World} {ao : Option Addr} {n c : Nat} {l : List Int} (h : Ints w (.slice ao n c) l) : n ≤ c := by
  obtain ⟨ao', c', hv, h1, _⟩ := h
  simp only [Value.slice.injEq] at hv
  obtain ⟨rfl, rfl, rfl⟩ := hv
  exact h1
/-- l[:k] -/
theorem run_cut {P : Program} {t : TypeId} (ht : P.underlying t = some (.slice (P.elem t))) (hs : ∀ w, (sizeOf (P.elem t)).run P w = .ok 1 w) (ao : Option Addr) (n c : Nat) (k : Int) (k0 : 0 ≤ k) (hk : k ≤ c) (W : World) :
    (Instr.slice t (.slice ao n c) none (some (.int .i64 k)) none).run P W = .ok (.slice ao k.toNat c) W := by
  rw [run_slice_h (ht := ht) (h0 := k0) (h2 := hk), hs]
  simp [Result.andThen, sliced]
  cases ao <;> simp [Addr.add]
theorem run_cutAt {P : Program} {t : TypeId} (ht : P.underlying t = some (.slice (P.elem t))) (hs : ∀ w, (sizeOf (P.elem t)).run P w = .ok 1 w) (ao : Option Addr) (n c : Nat) (k : Int) (k0 : 0 ≤ k) (hk : k ≤ c) (W : World) :
    (Instr.sliceAt t (.slice ao n c) none (some (.int .i64 k)) none).run P W = .ok (.slice ao k.toNat c) W := by
  rw [run_sliceAt_slice (h := ht), run_cut ht hs ao n c k k0 hk]
/-- the list with one number more, in memory of the call's own -/
def NxP (w0 : World) (M : List Nat) (Y : Nat) (s : Value) (wx : World) : Prop :=
  ∃ ao c, s = .slice ao (M.length + 1) c ∧ Own 3 w0 wx (.slice ao (M.length + 1) c) (castL (M ++ [Y])) ∧ Ext w0 wx
theorem NxP.of {w0 : World} {M : List Nat} {Y : Nat} {s : Value} {wx : World} (h : OwnE 3 w0 w0 wx s (castL M ++ [(Y : Int)])) (hE : Ext w0 wx) : NxP w0 M Y s wx := by
  have h2 := h.own (Ext.refl w0)
  rw [show castL M ++ [(Y : Int)] = castL (M ++ [Y]) by simp [castL]] at h2
  obtain ⟨ao, c, rfl, -⟩ := h2.shape
  rw [castL_len] at h2 ⊢
  rw [show (M ++ [Y]).length = M.length + 1 by simp] at h2 ⊢
  exact ⟨ao, c, rfl, h2, hE⟩
theorem sFind_any (v u : Value) (g h : List Int) (L : List Nat) (vL : Value) (b : Nat) (Hg : Hid (isGrp g = true)) (Hh : Hid (isGrp h = true)) (hLn : L.Nodup) (hLo : ∀ y ∈ L, y < ord g) (hl1 : 1 ≤ L.length) (hl5 : L.length ≤ 5) (hb2 : b < 2 ^ ord h) :
    ∀ (f : Nat) (M : List Nat) (vM : Value) (W0 w : World), Ints w v g → Ints w u h → Ints w vL (castL L) → Own 3 W0 w vM (castL M) → Ext W0 w → M.Nodup → (∀ y ∈ M, y < ord h) → M.length ≤ L.length → L.length < M.length + f →
    Calls Try.prog 108 #[.agg #[v], .agg #[u], vL, vM, .int .i64 b] w fun e w' => ∃ v' Z, e = .returned (.tuple #[v', .bool (fiS g h L (elems b) f M).isSome]) ∧ Own 3 W0 w' v' (castL Z) ∧ (∀ N, fiS g h L (elems b) f M = some N → Z = N) ∧ (M.length < L.length → fiS g h L (elems b) f M = none → Z = []) ∧ Ext w w' := by
  intro f
  induction f with
  | zero => intro M vM W0 w _ _ _ _ _ _ _ h1 h2; omega
  | succ f ih =>
  intro M vM W0 w hv hu hL hM hEW hMn hMo hml hfu
  obtain ⟨wb, hwb⟩ : ∃ wb, wb = (w.alloc (.cells #[v] 30)).alloc (.cells #[u] 30) := ⟨_, rfl⟩
  have hE0 : Ext w wb := by rw [hwb]; exact ((Ext.refl _).alloc _).alloc _
  have B0 : Blk wb w.heap.size 30 #[v] := by rw [hwb]; exact (Blk.new _ _ _).alloc _
  have B1 : Blk wb (w.heap.size + 1) 30 #[u] := by rw [hwb]; simpa using Blk.new (w.alloc (.cells #[v] 30)) 30 #[u]
  have b0 : ∀ W, Ext wb W → W.cell? ⟨w.heap.size, 0, none⟩ = some v := fun W hW => (B0.ext hW).cell (i := 0) rfl
  have b1 : ∀ W, Ext wb W → W.cell? ⟨w.heap.size + 1, 0, none⟩ = some u := fun W hW => (B1.ext hW).cell (i := 0) rfl
  have HV := Lib.hid (fun W (hW : Ext wb W) => hv.ext (hE0.trans hW))
  have HU := Lib.hid (fun W (hW : Ext wb W) => hu.ext (hE0.trans hW))
  have hE := Ext.refl wb
  have Hwb := Lib.hid hwb
  clear hv hu hwb B0 B1
  have HL := Lib.hid (fun W (hW : Ext wb W) => hL.ext (hE0.trans hW))
  have HM := Lib.hid (fun W (hW : Ext wb W) => hM.ext (hE0.trans hW))
  have hE0W := hEW.trans hE0
  have hoh := ord_bd Hh.out
  have hog := ord_bd Hg.out
  have hb24 : b < 2 ^ 24 := Nat.lt_of_lt_of_le hb2 (pow_ord Hh.out)
  obtain ⟨aoM, cM, rfl, -⟩ := hM.shape
  obtain ⟨aoL, cL, -, rfl, -, -, -⟩ := hL.op
  rw [castL_len L] at ih
  have Hih := Lib.hid ih
  clear ih hL hM
  rw [castL_len, castL_len]
  rw [castL_len] at HL HM
  by_cases hfull : M.length = L.length
  · have hq : (((M.length : Nat) : Int) == ((L.length : Nat) : Int)) = true := by rw [hfull]; simp
    have hK : isoF g h (castL L) (castL M) = isoK g h L M := iso_list Hg.out Hh.out hLn hMn hLo hMo hfull.symm hl1 (by omega)
    have HK : Hid (fiS g h L (elems b) (f + 1) M = if isoK g h L M then some M else none) := Lib.hid (by unfold fiS; rw [if_pos hfull])
    have cI := fun W (hW : Ext wb W) => sIso_any v u g h _ _ (castL L) (castL M) W (HV.out W hW) (HU.out W hW) (HL.out W hW) (HM.out W hW).ints
    rw [hK] at cI
    have hlt : ¬ M.length < L.length := by omega
    have Hlt := Lib.hid hlt
    clear hK hlt hfull
    cases hk : isoK g h L M
    all_goals
      rw [hk] at cI HK
      clear hk
      go_enter Try.func108, Try.ntmps108
      go_wp2_with fail
      rw [← Hwb.out]
      refine (cI _ hE).mono ?_
      rintro e w1 ⟨rfl, hE1⟩
      go_wp2_with fail
      rw [HK.out]
    · exact bodyPost_ret (v := .tuple #[.slice aoM M.length cM, .bool false]) (by simp [results, Try.results108, go_sem]) rfl ⟨_, M, rfl, (HM.out _ hE1), fun N e => by simp at e, fun e => absurd e Hlt.out, hE0.trans hE1⟩
    · exact bodyPost_ret (v := .tuple #[.slice aoM M.length cM, .bool true]) (by simp [results, Try.results108, go_sem]) rfl ⟨_, M, rfl, (HM.out _ hE1), fun N e => by simp at e; exact e, fun e => absurd e Hlt.out, hE0.trans hE1⟩
  · have hq : (((M.length : Nat) : Int) == ((L.length : Nat) : Int)) = false := by rw [beq_eq_false_iff_ne]; omega
    have HF : Hid (fiS g h L (elems b) (f + 1) M = (elems b).findSome? (fun y => if (bset M).testBit y || !kpB g h (L.take (M.length + 1)) (M ++ [y]) then none else fiS g h L (elems b) f (M ++ [y]))) := Lib.hid (by
      conv => lhs; unfold fiS
      rw [if_neg hfull])
    have hml2 : M.length < L.length := by omega
    clear hfull
    go_enter Try.func108, Try.ntmps108
    go_wp2_with fail
    rw [← Hwb.out]
    refine (l3List_any b hb24 _).mono ?_
    rintro e1 w1 ⟨v1, rfl, hLE, hE1⟩
    obtain ⟨aoE, cE, adrE, rfl, hadrE, hcellE⟩ := hLE.ints.nats
    have hixE := ints_index (c := cE) elI szI hadrE
    have hE24 : ∀ y ∈ elems b, y < ord h := fun y hy => bit_lt hb2 (mem_elems.1 hy).2
    clear hadrE hLE
    obtain ⟨E, hEd⟩ : ∃ E, E = elems b := ⟨_, rfl⟩
    rw [← hEd] at hcellE hixE hE24 HF Hih ⊢
    have hElen : E.length ≤ 24 := by rw [hEd]; exact elems_len b
    have HEd := Lib.hid hEd
    clear hEd
    go_wp2_with fail
    go_loopw [13] (fun iv wr => ∃ k : Nat, k ≤ E.length ∧ iv = .int .i64 k ∧ Ext w1 wr ∧ Hid (∀ k', k' < k → (if (bset M).testBit (nthN E k') || !kpB g h (L.take (M.length + 1)) (M ++ [nthN E k']) then none else fiS g h L E f (M ++ [nthN E k'])) = none)) (fun iv _ => E.length - (intOf iv).toNat)
    case atStart => exact ⟨0, by omega, rfl, Ext.refl _, Lib.hid (by omega)⟩
    case round =>
      clear hE
      obtain ⟨k, hk, rfl, hE, H⟩ := hrel
      have hEw := hE1.trans hE
      by_cases hlt : k < E.length
      · have hyo := hE24 _ (nthN_mem hlt)
        have hck : ∀ W, Ext wr W → W.cell? (adrE k) = some (.int .i64 (nthN E k : Int)) := fun W hW => hcellE k _ hlt (hE.trans hW)
        have hrb : ∀ W, Ext wr W → Ext wb W := fun W hW => hEw.trans hW
        obtain ⟨Y, hY⟩ : ∃ Y, Y = nthN E k := ⟨_, rfl⟩
        have HY := Lib.hid hY
        rw [← hY] at hck hyo
        have hln : (castL M).length + [(Y : Int)].length ≤ 17592186044416 := by rw [castL_len]; simp; omega
        clear hY
        have hEwr := hE
        clear hE
        have hE := Ext.refl wr
        have HMi := Lib.hid (fun W (hW : Ext wr W) => (HM.out W (hrb W hW)).ints)
        have hMl : ((castL M).length : Int) = (M.length : Int) := by rw [castL_len]
        go_upto_region 7 with fail
        go_cut [14] (fun s14 wx => NxP wr M Y s14 wx)
        case first =>
          first | (go_region_held3 (fun W => Ext wr W ∧ W.cell? (adrE k) = some (.int .i64 (Y : Int))) (exact ⟨(by repeat (first | assumption | exact Ext.refl _ | (apply And.left; assumption) | apply Ext.drew | apply Ext.alloc)), hck _ (by repeat (first | assumption | exact Ext.refl _ | (apply And.left; assumption) | apply Ext.drew | apply Ext.alloc))⟩) (first | (have hOq := hOC; refine step_appendsE slI rfl _ _ rfl wr wr _ _ (castL M) [(Y : Int)] (Or.inr (by first | exact hOC | exact hOC.alloc _ | exact (hOC.alloc _).drew)) (Blk.ints1 (T := 3) (by repeat (first | (with_reducible assumption) | (with_reducible exact Blk.new _ _ _) | ((with_reducible refine Blk.new' ?_); simp [go_sem]; done) | (with_reducible apply Blk.alloc) | (with_reducible apply Blk.drew) | (with_reducible refine Blk.ext ?_ hEC)))) (by repeat (first | assumption | exact Ext.refl _ | (apply And.left; assumption) | apply Ext.drew | apply Ext.alloc)) hln rfl rfl ?_; intro vD wD hOD hXD hTD) | (refine step_copy2 slI rfl _ _ rfl _ _ (castL M) rfl rfl (by repeat (first | (with_reducible assumption) | (with_reducible exact Blk.new _ _ _) | ((with_reducible refine Blk.new' ?_); simp [go_sem]; done) | (with_reducible apply Blk.alloc) | (with_reducible apply Blk.drew))) (HMi.out _ (by repeat (first | assumption | exact Ext.refl _ | (apply And.left; assumption) | apply Ext.drew | apply Ext.alloc))) wr (by first | exact Nat.le_refl _ | omega | (simp; omega)) (by repeat (first | assumption | exact Ext.refl _ | (apply And.left; assumption) | apply Ext.drew | apply Ext.alloc)) ?_; intro aoC cC wC hOC hZC hEC; have hXC := Ext.trans (a := wr) (by repeat (first | assumption | exact Ext.refl _ | (apply And.left; assumption) | apply Ext.drew | apply Ext.alloc)) hEC))) | (fail "the region")
          all_goals (go_wp2_with fail; go_meet; exact NxP.of hOD hXD)
        case rest =>
          obtain ⟨aoN, cN, rfl, hON, hEN⟩ := hcut
          have cS := fun W (hW : Ext wc W) => sSetOf_any u h (.slice aoN (M.length + 1) cN) (castL (M ++ [Y])) W (HU.out W (hrb W (hEN.trans hW))) (hON.ext hW).ints
          rw [soB_snoc Hh.out hMn hMo hyo] at cS
          have HN := Lib.hid (fun W (hW : Ext wc W) => hON.ext hW)
          have HnM : Hid ((M ++ [Y]).length = M.length + 1) := Lib.hid (by simp)
          have Hml2 := Lib.hid hml2
          have hmL : (M.length : Int) + 1 ≤ (L.length : Int) := by omega
          have hL24 : ∀ y ∈ L.take (M.length + 1), y < 24 := fun y hy => Nat.lt_of_lt_of_le (hLo y (List.mem_of_mem_take hy)) hog.2
          have hM24 : ∀ y ∈ M ++ [Y], y < 24 := fun y hy => by
            rw [List.mem_append, List.mem_singleton] at hy
            rcases hy with hy | rfl
            · exact Nat.lt_of_lt_of_le (hMo y hy) hoh.2
            · exact Nat.lt_of_lt_of_le hyo hoh.2
          have HMo2 : Hid (∀ y ∈ M ++ [Y], y < ord h) := Lib.hid fun y hy => by
            rw [List.mem_append, List.mem_singleton] at hy
            rcases hy with hy | rfl
            · exact hMo y hy
            · exact hyo
          have Htk : Hid ((L.take (M.length + 1)).length = M.length + 1) := Lib.hid (by rw [List.length_take]; omega)
          clear hON hck hixE
          have hwc : ∀ W, Ext wc W → Ext wb W := fun W hW => hrb W (hEN.trans hW)
          cases ht : (bset M).testBit Y
          · rw [ht] at cS
            simp only [Bool.not_false] at cS
            have Hnd : Hid ((M ++ [Y]).Nodup) := Lib.hid (by
              rw [List.nodup_append]
              refine ⟨hMn, by simp, fun a ha b hb => ?_⟩
              rw [List.mem_singleton] at hb
              subst hb
              rintro rfl
              rw [bset_mem] at ht
              simp [ha] at ht)
            have Ht := Lib.hid ht
            clear ht
            go_wp2_with fail
            refine (cS _ (Ext.refl _)).mono ?_
            rintro e w2 ⟨rfl, hE2⟩
            have hE2b := hwc _ hE2
            have kb0 := fun U => b0 _ (hE2b.trans (lat_ext w2 U))
            have kb1 := fun U => b1 _ (hE2b.trans (lat_ext w2 U))
            have cK := fun U => sKeeps_any v u g h (.slice aoL (M.length + 1) cL) (.slice aoN (M.length + 1) cN) (L.take (M.length + 1)) (M ++ [Y]) (Lat w2 U) (HV.out _ (hE2b.trans (lat_ext w2 U))) (HU.out _ (hE2b.trans (lat_ext w2 U))) Hg Hh (by rw [castL_take]; exact (HL.out _ (hE2b.trans (lat_ext w2 U))).take (by rw [castL_len]; omega)) (HN.out _ (hE2.trans (lat_ext w2 U))).ints hL24 hM24 (by rw [Htk.out, HnM.out]; omega) (by rw [Htk.out]; omega)
            clear cS
            have hcL := (HL.out _ hE2b).cap
            have hsl := fun W => run_cut (P := Try.prog) elI szI aoL L.length cL ((M.length : Int) + 1) (by omega) (by omega) W
            have hsa := fun W => run_cutAt (P := Try.prog) elI szI aoL L.length cL ((M.length : Int) + 1) (by omega) (by omega) W
            rw [show ((M.length : Int) + 1).toNat = M.length + 1 by omega] at hsl hsa
            clear hcL
            have hE := Ext.refl w2
            cases hk : kpB g h (L.take (M.length + 1)) (M ++ [Y])
            · rw [hk] at cK
              have Hno : Hid ((if (bset M).testBit (nthN E k) || !kpB g h (L.take (M.length + 1)) (M ++ [nthN E k]) then none else fiS g h L E f (M ++ [nthN E k])) = none) := Lib.hid (by rw [← HY.out, hk]; simp)
              clear hk
              go_wp2_with fail
              (refine wp_region_lat (w2) (by kernel_rfl) (by kernel_rfl) hE ?_); (repeat (go_big_quiet_step (first | (go_at_call 154; with_reducible exact Calls.lat (cK _))))); (refine wpQuiet_nil ?_); (intro W hE'); (replace hE := lat_of hE'); (clear hE')
              go_wp2_with fail
              go_roundw
              case rel => exact ⟨k + 1, by omega, by go_num, hEwr.trans (hEN.trans (hE2.trans hE)), Lib.hid fun k' hk' => by by_cases e : k' = k; (subst e; exact Hno.out); exact H.out k' (by omega)⟩
              case measure => (simp [intOf]; omega)
            · rw [hk] at cK
              have Hyes : Hid ((if (bset M).testBit (nthN E k) || !kpB g h (L.take (M.length + 1)) (M ++ [nthN E k]) then none else fiS g h L E f (M ++ [nthN E k])) = fiS g h L E f (M ++ [Y])) := Lib.hid (by rw [← HY.out, hk, Ht.out]; rfl)
              clear hk
              go_wp2_with fail
              (refine wp_region_lat (w2) (by kernel_rfl) (by kernel_rfl) hE ?_); (repeat (go_big_quiet_step (first | (go_at_call 154; with_reducible exact Calls.lat (cK _))))); (refine wpQuiet_nil ?_); (intro W hE'); (replace hE := lat_of hE'); (clear hE')
              have hEq := hE2b.trans hE
              have cR := fun W (hW : Ext w2 W) => Hih.out (M ++ [Y]) (.slice aoN (M.length + 1) cN) W0 W (HV.out _ (hE2b.trans hW)) (HU.out _ (hE2b.trans hW)) (HL.out _ (hE2b.trans hW)) ((HN.out _ (hE2.trans hW)).mono (hE0W.trans hEw)) (hE0W.trans (hE2b.trans hW)) Hnd.out HMo2.out (by rw [HnM.out]; omega) (by rw [HnM.out]; omega)
              cases hr : fiS g h L E f (M ++ [Y]) with
              | none =>
                rw [hr] at cR Hyes
                go_wp2_with fail
                refine (cR _ hE).mono ?_
                rintro e w3 ⟨v3, Z, rfl, hO3, hZ1, hZ2, hE3⟩
                clear hZ1 hZ2 cR hr
                go_wp2_with fail
                go_roundw
                case rel => exact ⟨k + 1, by omega, by go_num, hEwr.trans (hEN.trans (hE2.trans (hE.trans hE3))), Lib.hid fun k' hk' => by by_cases e : k' = k; (subst e; exact Hyes.out); exact H.out k' (by omega)⟩
                case measure => (simp [intOf]; omega)
              | some N =>
                rw [hr] at cR Hyes
                have HFs : Hid (fiS g h L E (f + 1) M = some N) := Lib.hid (by rw [HF.out]; exact findSome_at hlt H.out Hyes.out)
                go_wp2_with fail
                refine (cR _ hE).mono ?_
                rintro e w3 ⟨v3, Z, rfl, hO3, hZ1, hZ2, hE3⟩
                have HZ := Lib.hid (hZ1 N rfl)
                have hEf := hE0.trans (hE2b.trans (hE.trans hE3))
                clear hZ1 hZ2 cR hr
                go_wp2_with fail
                rw [← HEd.out, HFs.out]
                exact bodyPost_ret (v := .tuple #[v3, .bool true]) (by simp [results, Try.results108, go_sem]) rfl ⟨_, Z, rfl, hO3, fun N' e => by cases e; exact HZ.out, fun _ e => by simp at e, hEf⟩
          · rw [ht] at cS
            simp only [Bool.not_true] at cS
            have Hno : Hid ((if (bset M).testBit (nthN E k) || !kpB g h (L.take (M.length + 1)) (M ++ [nthN E k]) then none else fiS g h L E f (M ++ [nthN E k])) = none) := Lib.hid (by rw [← HY.out, ht]; rfl)
            clear ht
            go_wp2_with fail
            refine (cS _ (Ext.refl _)).mono ?_
            rintro e w2 ⟨rfl, hE2⟩
            have hE := Ext.refl w2
            go_wp2_with fail
            (refine wp_region_lat (w2) (by kernel_rfl) (by kernel_rfl) hE ?_); (repeat (go_big_quiet_step (first | (fail "no call")))); (refine wpQuiet_nil ?_); (intro W hE'); (replace hE := lat_of hE'); (clear hE')
            go_wp2_with fail
            go_roundw
            case rel => exact ⟨k + 1, by omega, by go_num, hEwr.trans (hEN.trans (hE2.trans hE)), Lib.hid fun k' hk' => by by_cases e : k' = k; (subst e; exact Hno.out); exact H.out k' (by omega)⟩
            case measure => (simp [intOf]; omega)
      · have hkl : k = E.length := by omega
        have HFn : Hid (fiS g h L E (f + 1) M = none) := Lib.hid (by rw [HF.out]; exact findSome_none fun k' hk' => H.out k' (by omega))
        have hEb := hE1.trans hE
        have hOe : Own 3 W0 (wr.alloc (.cells #[] 3)) (.slice (some ⟨wr.heap.size, 0, none⟩) 0 0) (castL []) := (own_made (TI := 3) (n := 0) (by omega) hE (castL []) rfl).mono (hE0W.trans hE1)
        have hEe := (hE0.trans hEb).alloc (.cells #[] 3)
        clear hkl
        go_wp2_with fail
        rw [← HEd.out, HFn.out]
        exact bodyPost_ret (v := .tuple #[.slice (some ⟨wr.heap.size, 0, none⟩) 0 0, .bool false]) (by simp [results, Try.results108, go_sem]) rfl ⟨_, [], rfl, hOe, fun N e => by simp at e, fun _ _ => rfl, hEe⟩
end Go.Zz
