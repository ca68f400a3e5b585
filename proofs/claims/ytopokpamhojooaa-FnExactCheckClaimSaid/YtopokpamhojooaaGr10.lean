/- Taking the terms of a part out: the reference. -/
import Derived.Test.YtopokpamhojooaaGr9
import Derived.Test.YtopokpamhojooaaGr7
import Derived.Test.YtopokpamhojooaaGr2
import Derived.Test.YtopokpamhojooaaGr6
import Derived.Test.YtopokpamhojooaaGr5
import Derived.Test.YtopokpamhojooaaGr8
namespace Go.Zz
open Go.RowKit Go.Proofs
set_option maxHeartbeats 2000000
set_option maxRecDepth 8000

/-- l[k:] -/
def tailV (ao : Option Addr) (n c k : Nat) : Value := .slice (if c = k then ao else ao.map (·.add k)) (n - k) (c - k)
theorem run_cutFrom {P : Program} {t : TypeId} (ht : P.underlying t = some (.slice (P.elem t))) (hs : ∀ w, (sizeOf (P.elem t)).run P w = .ok 1 w) (ao : Option Addr) (n c : Nat) (k : Int) (k0 : 0 ≤ k) (hk : k ≤ n) (W : World) :
    (Instr.slice t (.slice ao n c) (some (.int .i64 k)) none none).run P W = .ok (tailV ao n c k.toNat) W := by
  rw [run_slice_l (ht := ht) (h0 := k0) (h1 := hk), hs]
  simp [Result.andThen, sliced, tailV]
theorem run_cutFromAt {P : Program} {t : TypeId} (ht : P.underlying t = some (.slice (P.elem t))) (hs : ∀ w, (sizeOf (P.elem t)).run P w = .ok 1 w) (ao : Option Addr) (n c : Nat) (k : Int) (k0 : 0 ≤ k) (hk : k ≤ n) (W : World) :
    (Instr.sliceAt t (.slice ao n c) (some (.int .i64 k)) none none).run P W = .ok (tailV ao n c k.toNat) W := by
  rw [run_sliceAt_slice (h := ht), run_cutFrom ht hs ao n c k k0 hk]
theorem Ints.drop {w : World} {ao : Option Addr} {n c : Nat} {l : List Int} (h : Ints w (.slice ao n c) l) {k : Nat} (hk : k ≤ l.length) : Ints w (tailV ao n c k) (l.drop k) := by
  obtain ⟨ao', c', hv, h1, h2, h3⟩ := h
  simp only [Value.slice.injEq] at hv
  obtain ⟨rfl, rfl, rfl⟩ := hv
  have hl : (l.drop k).length = l.length - k := List.length_drop
  refine ⟨_, c - k, by rw [hl]; rfl, by rw [hl]; omega, by rw [hl]; omega, fun i hi => ?_⟩
  rw [hl] at hi
  obtain ⟨a, rfl, hc⟩ := h3 (k + i) (by omega)
  refine ⟨a.add k, by rw [if_neg (by omega)]; rfl, ?_⟩
  rw [show (a.add k).add i = a.add (k + i) by unfold Addr.add; by_cases h1 : k = 0 <;> by_cases h2 : i = 0 <;> simp [h1, h2, Nat.add_assoc], hc]
  simp [nth, List.getD, List.getElem?_drop]
/-- the list without one number, in memory of the call's own -/
def MiP (w0 : World) (T : List Int) (s : Value) (wx : World) : Prop := ∃ ao c, s = .slice ao T.length c ∧ Own 3 w0 wx (.slice ao T.length c) T ∧ Ext w0 wx
theorem MiP.of {w0 : World} {A B : List Int} {s : Value} {wx : World} (h : OwnE 3 w0 w0 wx s (A ++ B)) (hE : Ext w0 wx) : MiP w0 (A ++ B) s wx := by
  have h2 := h.own (Ext.refl w0)
  obtain ⟨ao, c, rfl, -⟩ := h2.shape
  exact ⟨ao, c, rfl, h2, hE⟩
theorem l19Minus_any (u1 u2 : Value) (T P : List Int) (w : World) (h1 : Ints w u1 T) (h2 : Ints w u2 P) :
    Calls Try.prog 69 #[u1, u2] w fun e w' => TB (subM T P) e ∧ Ext w w' := by
  obtain ⟨ao2, c2, adrP, rfl, hlenP, hadrP, hcellP⟩ := h2.op
  have hixP := ints_index (c := c2) elI szI hadrP
  have hlenT : T.length ≤ 17592186044416 := by obtain ⟨_, _, _, _, h', _⟩ := h1; exact h'
  have hO : Own 3 w (w.alloc (.cells #[] 3)) (.slice (some ⟨w.heap.size, 0, none⟩) 0 0) [] := own_made (TI := 3) (n := 0) (by omega) (Ext.refl w) [] rfl
  have hEl := (Ext.refl w).alloc (.cells #[] 3)
  have hI := h1.ext hEl
  clear hadrP h2 h1
  go_enter Try.func69, Try.ntmps69
  go_wp2_with (at_builtin; refine wp_appends slI rfl _ _ rfl w _ _ _ _ _ hO hI hEl (by simpa using hlenT) rfl rfl ?_; intro v1 w1 hO1 hE1; rw [List.nil_append] at hO1; obtain ⟨ao1, c1, rfl, -⟩ := hO1.shape)
  have HO1 := Lib.hid hO1
  have HE1 := Lib.hid hE1
  clear hO hEl hI hO1 hE1
  go_loopw [6, 7] (fun so si wr => ∃ (k : Nat) (T' : List Int) (ao : Option Addr) (c : Nat), k ≤ P.length ∧ si = .int .i64 k ∧ so = .slice ao T'.length c ∧ Own 3 w wr (.slice ao T'.length c) T' ∧ T'.length ≤ T.length ∧ Hid (subM T P = subM T' (P.drop k)) ∧ Ext w wr) (fun _ si _ => P.length - (intOf si).toNat)
  case atStart => exact ⟨0, T, ao1, c1, by omega, rfl, rfl, HO1.out, Nat.le_refl _, Lib.hid rfl, HE1.out⟩
  case round =>
    clear HO1 HE1
    obtain ⟨k, T', ao, c, hk, rfl, rfl, hOr, hTl, HS, hEr⟩ := hrel
    have HO := Lib.hid (fun W (hW : Ext wr W) => hOr.ext hW)
    by_cases hlt : k < P.length
    · obtain ⟨aoT, cT, adrT, hvT, hlT, hadrT, hcellT⟩ := hOr.ints.op
      simp only [Value.slice.injEq] at hvT
      obtain ⟨rfl, -, rfl⟩ := hvT
      have hixT := ints_index (c := c) elI szI hadrT
      have hckP := fun W (hW : Ext wr W) => hcellP k W hlt (hEr.trans hW)
      obtain ⟨Y, hY⟩ : ∃ Y, Y = nth P k := ⟨_, rfl⟩
      have Hdrop : Hid (P.drop k = Y :: P.drop (k + 1)) := Lib.hid (by
        rw [hY, List.drop_eq_getElem_cons hlt]; simp [nth, List.getD, hlt])
      have hcap := hOr.ints.cap
      rw [← hY] at hckP
      have HEr := Lib.hid hEr
      have HcP := Lib.hid hcellP
      clear hadrT hOr hY hcellP
      have hE := Ext.refl wr
      go_wp2_with fail
      go_loopw [8, 9] (fun sa sj wq => ∃ j : Nat, j ≤ T'.length ∧ sj = .int .i64 j ∧ sa = .int .i64 (lastTo T' Y j) ∧ Ext wr wq) (fun _ sj _ => T'.length - (intOf sj).toNat)
      case atStart => exact ⟨0, by omega, rfl, rfl, hE⟩
      case round =>
        clear hE
        rename World => wq
        obtain ⟨j, hj, rfl, rfl, hE⟩ := hrel
        by_cases hlj : j < T'.length
        · have hk1 := fun U => hcellT j _ hlj (hE.trans (lat_ext wq U))
          have hk2 := fun U => hckP _ (hE.trans (lat_ext wq U))
          have hE1 := hE
          clear hE
          have hE := Ext.refl wq
          by_cases e : nth T' j = Y
          · have Hn := Lib.hid (lastTo_yes e)
            have hq : (nth T' j == Y) = true := by rw [e]; simp
            clear e
            go_wp2_with fail
            (refine wp_region_lat (wq) (by kernel_rfl) (by kernel_rfl) hE ?_); (repeat (go_big_quiet_step (first | (fail "no call")))); (refine wpQuiet_nil ?_); (intro W hE'); (replace hE := lat_of hE'); (clear hE')
            go_wp2_with fail
            go_roundw
            case rel => exact ⟨j + 1, by omega, by go_num, by rw [Hn.out], hE1.trans hE⟩
            case measure => (simp [intOf]; omega)
          · have Hn := Lib.hid (lastTo_no e)
            have hq : (nth T' j == Y) = false := by rw [beq_eq_false_iff_ne]; exact e
            clear e
            go_wp2_with fail
            (refine wp_region_lat (wq) (by kernel_rfl) (by kernel_rfl) hE ?_); (repeat (go_big_quiet_step (first | (fail "no call")))); (refine wpQuiet_nil ?_); (intro W hE'); (replace hE := lat_of hE'); (clear hE')
            go_wp2_with fail
            go_roundw
            case rel => exact ⟨j + 1, by omega, by go_num, by rw [Hn.out], hE1.trans hE⟩
            case measure => (simp [intOf]; omega)
        · have hjl : j = T'.length := by omega
          subst hjl
          clear hlj hj
          by_cases hneg : lastTo T' Y T'.length < 0
          · have Hs : Hid (subM T P = false) := Lib.hid (by rw [HS.out, Hdrop.out, subM_no (last_no hneg)])
            go_wp2_with fail
            have hEf := HEr.out.trans hE
            exact bodyPost_ret (v := .tuple #[.slice (some ⟨wq.heap.size, 0, none⟩) 0 0, .bool false]) (by simp [results, Try.results69, go_sem]) rfl ⟨by rw [Hs.out]; exact TB.mk _ _, hEf.alloc _⟩
          · obtain ⟨a, ea, ha, hd, hm⟩ := last_yes hneg
            have Hs : Hid (subM T P = subM (T'.take a ++ T'.drop (a + 1)) (P.drop (k + 1))) := Lib.hid (by rw [HS.out, Hdrop.out, subM_yes hm, hd])
            have Hlen : Hid ((T'.take a ++ T'.drop (a + 1)).length ≤ T.length) := Lib.hid (by rw [List.length_append, List.length_take, List.length_drop]; omega)
            have hln : (T'.take a).length + (T'.drop (a + 1)).length ≤ 17592186044416 := by rw [List.length_take, List.length_drop]; omega
            rw [ea]
            have hna : ¬ ((a : Int) < 0) := by omega
            have hsl := fun W => run_cut (P := Try.prog) elI szI ao T'.length c (a : Int) (by omega) (by omega) W
            have hsa := fun W => run_cutAt (P := Try.prog) elI szI ao T'.length c (a : Int) (by omega) (by omega) W
            have hfl := fun W => run_cutFrom (P := Try.prog) elI szI ao T'.length c ((a : Int) + 1) (by omega) (by omega) W
            have hfa := fun W => run_cutFromAt (P := Try.prog) elI szI ao T'.length c ((a : Int) + 1) (by omega) (by omega) W
            rw [show ((a : Int)).toNat = a by omega] at hsl hsa
            rw [show ((a : Int) + 1).toNat = a + 1 by omega] at hfl hfa
            have hw1 : IntKind.i64.wrap ((a : Int) + 1) = (a : Int) + 1 := IntWalk.i64_in _ (by omega)
            have HA := Lib.hid (fun W (hW : Ext wq W) => (HO.out W (hE.trans hW)).ints.take (k := a) (by omega))
            have HB := Lib.hid (fun W (hW : Ext wq W) => (HO.out W (hE.trans hW)).ints.drop (k := a + 1) (by omega))
            have hEq := HEr.out.trans hE
            clear hneg ea hd hm hcellT hckP hixT hixP
            have hE1 := hE
            clear hE
            have hE := Ext.refl wq
            go_wp2_with fail
            first | (go_region_held3 (fun W => Ext wq W) (exact (by repeat (first | assumption | exact Ext.refl _ | (apply And.left; assumption) | apply Ext.drew | apply Ext.alloc))) (first | (have hOq := hOC; refine step_appendsE slI rfl _ _ rfl wq wq _ _ (T'.take a) (T'.drop (a + 1)) (Or.inr (by first | exact hOC | exact hOC.alloc _ | exact (hOC.alloc _).drew)) (HB.out _ (by repeat (first | assumption | exact Ext.refl _ | (apply And.left; assumption) | apply Ext.drew | apply Ext.alloc))) (by repeat (first | assumption | exact Ext.refl _ | (apply And.left; assumption) | apply Ext.drew | apply Ext.alloc)) hln rfl rfl ?_; intro vD wD hOD hXD hTD) | (refine step_copy2 slI rfl _ _ rfl _ _ (T'.take a) rfl rfl (by repeat (first | (with_reducible assumption) | (with_reducible exact Blk.new _ _ _) | ((with_reducible refine Blk.new' ?_); simp [go_sem]; done) | (with_reducible apply Blk.alloc) | (with_reducible apply Blk.drew))) (HA.out _ (by repeat (first | assumption | exact Ext.refl _ | (apply And.left; assumption) | apply Ext.drew | apply Ext.alloc))) wq (by first | exact Nat.le_refl _ | omega | (simp; omega)) (by repeat (first | assumption | exact Ext.refl _ | (apply And.left; assumption) | apply Ext.drew | apply Ext.alloc)) ?_; intro aoC cC wC hOC hZC hEC; have hXC := Ext.trans (a := wq) (by repeat (first | assumption | exact Ext.refl _ | (apply And.left; assumption) | apply Ext.drew | apply Ext.alloc)) hEC))) | (fail "the region")
            all_goals
              obtain ⟨aoN, cN, rfl, hON, hEN⟩ := MiP.of hOD hXD
              go_wp2_with fail
              go_roundw
              case rel => exact ⟨k + 1, _, aoN, cN, by omega, by go_num, rfl, hON.mono hEq, Hlen.out, Hs, hEq.trans hEN⟩
              case measure => (simp [intOf]; omega)
    · have hkl : k = P.length := by omega
      have Hs : Hid (subM T P = true) := Lib.hid (by rw [HS.out, hkl, List.drop_length]; rfl)
      go_wp2_with fail
      exact bodyPost_ret (v := .tuple #[.slice ao T'.length c, .bool true]) (by simp [results, Try.results69, go_sem]) rfl ⟨by rw [Hs.out]; exact TB.mk _ _, hEr⟩
end Go.Zz

/- Sets out of lists, images, maps that keep sums: the program. -/
namespace Go.Zz
open Go.RowKit Go.Proofs
set_option maxHeartbeats 1000000
set_option maxRecDepth 4000

theorem SetOf_any (v : Value) (l : List Int) (vX : Value) (X : List Int) (w : World) (h : Ints w v l) (hX : Ints w vX X) :
    Calls Try.prog 89 #[.agg #[v], vX] w fun e w' => e = .returned (.tuple #[.int .i64 (soV l X), .bool (soB l X)]) ∧ Ext w w' := by
  obtain ⟨wb, hwb⟩ : ∃ wb, wb = w.alloc (.cells #[v] 30) := ⟨_, rfl⟩
  have hE0 := (Ext.refl w).alloc (.cells #[v] 30)
  have hb := box_cell w v 30
  rw [← hwb] at hE0 hb
  have hg : ∀ W, Ext wb W → Ints W v l := fun W hW => h.ext (hE0.trans hW)
  have hE := Ext.refl wb
  have Hsz : Hid (w.heap.size + 1 = wb.heap.size) := Lib.hid (by rw [hwb]; simp [go_sem])
  have Hwb := Lib.hid hwb
  clear hwb h
  obtain ⟨ao, c, adr, rfl, hlen, hadr, hcell⟩ := hX.op
  have hix := ints_index (c := c) elI szI hadr
  clear hadr hX
  go_enter Try.func89, Try.ntmps89
  go_wp2_with fail
  rw [← Hwb.out]
  go_loopw [6, 11] (fun av iv wr => ∃ (k a : Nat), k ≤ X.length ∧ iv = .int .i64 k ∧ av = .int .i64 a ∧ a < 2 ^ 24 ∧ Ext wb wr ∧ Hid (soG l X 0 = soG l (X.drop k) a)) (fun _ iv _ => X.length - (intOf iv).toNat)
  case atStart => exact ⟨0, 0, by omega, rfl, rfl, by decide, hE, Lib.hid rfl⟩
  case round =>
    clear hE
    obtain ⟨k, a, hk, rfl, rfl, ha, hE, H⟩ := hrel
    have kb := hb _ hE
    by_cases hlt : k < X.length
    · have hd := drop_nth X k hlt
      have hck := hcell k wr hlt (hE0.trans hE)
      cases hh : hasB l (nth X k)
      · have Hn : Hid (soB l X = false ∧ soV l X = 0) := Lib.hid (soG_no (by rw [H.out, hd, soG_hno hh]))
        have cI := has_any v l (nth X k) wr (hg _ hE)
        rw [hh] at cI
        clear hd hh
        go_wp2_with (go_at_call 140; refine cI.mono ?_; rintro e w1 ⟨rfl, hE1⟩)
        exact bodyPost_ret (v := .tuple #[.int .i64 0, .bool false]) (by simp [results, Try.results89, go_sem]) rfl ⟨by rw [Hn.out.1, Hn.out.2], hE0.trans (hE.trans hE1)⟩
      · have cI := has_any v l (nth X k) wr (hg _ hE)
        rw [hh] at cI
        obtain ⟨n, hn, hno, hgr⟩ := hasB_nat hh
        have hob := ord_bd hgr
        rw [hn] at hd hh cI hck
        have Hx := Lib.hid hn
        have hs1 := ishl_one (n := n) (by omega)
        have hor := ior_pw (o := a) (z := n) ha (by omega)
        cases ht : a.testBit n
        · have hin := in_val a n ha (by omega) (b := false)
          have Hn : Hid (soG l X 0 = soG l (X.drop (k + 1)) (a ||| 2 ^ n)) := Lib.hid (by rw [H.out, hd, soG_go hh ht])
          have hab : a ||| 2 ^ n < 2 ^ 24 := Nat.or_lt_two_pow ha (Nat.pow_lt_pow_right (by omega) (by omega))
          have ci := fun W => hin W ht
          clear hd hh ht hgr hn hin
          have hcx : ∀ W, Ext wr W → W.cell? (adr k) = some (.int .i64 (n : Int)) := fun W hW => hW.cell hck
          go_wp2_with (first | (go_at_call 140; refine cI.mono ?_; rintro e w1 ⟨rfl, hE1⟩) | (go_at_call 112; refine (ci _).mono ?_; rintro e w' ⟨rfl, rfl⟩))
          go_roundw
          case rel => exact ⟨k + 1, a ||| 2 ^ n, by omega, by go_num, rfl, hab, hE.trans hE1, Hn⟩
          case measure => (simp [intOf]; omega)
        · have hin := in_val a n ha (by omega) (b := true)
          have Hn : Hid (soB l X = false ∧ soV l X = 0) := Lib.hid (soG_no (by rw [H.out, hd, soG_bno ht]))
          have ci := fun W => hin W ht
          clear hd hh ht hgr hn hin
          go_wp2_with (first | (go_at_call 140; refine cI.mono ?_; rintro e w1 ⟨rfl, hE1⟩) | (go_at_call 112; refine (ci _).mono ?_; rintro e w' ⟨rfl, rfl⟩))
          exact bodyPost_ret (v := .tuple #[.int .i64 0, .bool false]) (by simp [results, Try.results89, go_sem]) rfl ⟨by rw [Hn.out.1, Hn.out.2], hE0.trans (hE.trans hE1)⟩
    · have hkl : k = X.length := by omega
      have Hn : Hid (soB l X = isGrp l ∧ soV l X = (a : Int)) := Lib.hid (soG_yes (by rw [H.out, hkl, List.drop_length]; rfl))
      clear hkl
      have cG := IsGroup_any v l wr (hg _ hE)
      go_wp2_with (refine cG.mono ?_; rintro e w1 ⟨rfl, hE1⟩)
      exact bodyPost_ret (v := .tuple #[.int .i64 a, .bool (isGrp l)]) (by simp [results, Try.results89, go_sem]) rfl ⟨by rw [Hn.out.1, Hn.out.2], hE0.trans (hE.trans hE1)⟩
theorem ImageOfMap_any (v : Value) (l : List Int) (vX : Value) (X : List Int) (w : World) (h : Ints w v l) (hX : Ints w vX X) :
    Calls Try.prog 166 #[.agg #[v], vX] w fun e w' => ∃ z : Int, e = .returned (.tuple #[.int .i64 z, .bool (X.all (hasB l) && isGrp l)]) ∧ Ext w w' := by
  obtain ⟨wb, hwb⟩ : ∃ wb, wb = w.alloc (.cells #[v] 30) := ⟨_, rfl⟩
  have hE0 := (Ext.refl w).alloc (.cells #[v] 30)
  have hb := box_cell w v 30
  rw [← hwb] at hE0 hb
  have hg : ∀ W, Ext wb W → Ints W v l := fun W hW => h.ext (hE0.trans hW)
  have hE := Ext.refl wb
  have Hsz : Hid (w.heap.size + 1 = wb.heap.size) := Lib.hid (by rw [hwb]; simp [go_sem])
  have Hwb := Lib.hid hwb
  clear hwb h
  obtain ⟨ao, c, adr, rfl, hlen, hadr, hcell⟩ := hX.op
  have hix := ints_index (c := c) elI szI hadr
  clear hadr hX
  go_enter Try.func166, Try.ntmps166
  go_wp2_with fail
  rw [← Hwb.out]
  go_loopw [6, 11] (fun av iv wr => ∃ (k a : Nat), k ≤ X.length ∧ iv = .int .i64 k ∧ av = .int .i64 a ∧ a < 2 ^ 24 ∧ Ext wb wr ∧ Hid (∀ j, j < k → hasB l (nth X j) = true)) (fun _ iv _ => X.length - (intOf iv).toNat)
  case atStart => exact ⟨0, 0, by omega, rfl, rfl, by decide, hE, Lib.hid (by omega)⟩
  case round =>
    clear hE
    obtain ⟨k, a, hk, rfl, rfl, ha, hE, H⟩ := hrel
    have kb := hb _ hE
    by_cases hlt : k < X.length
    · have hck := hcell k wr hlt (hE0.trans hE)
      have cI := has_any v l (nth X k) wr (hg _ hE)
      cases hh : hasB l (nth X k)
      · have Hn : Hid ((X.all (hasB l) && isGrp l) = false) := Lib.hid (by
          have : X.all (hasB l) = false := by
            rw [List.all_eq_false]; exact ⟨_, nth_mem hlt, by rw [hh]; simp⟩
          rw [this]; rfl)
        rw [hh] at cI
        clear hh
        go_wp2_with (go_at_call 140; refine cI.mono ?_; rintro e w1 ⟨rfl, hE1⟩)
        exact bodyPost_ret (v := .tuple #[.int .i64 0, .bool false]) (by simp [results, Try.results166, go_sem]) rfl ⟨0, by rw [Hn.out], hE0.trans (hE.trans hE1)⟩
      · rw [hh] at cI
        have Hh := Lib.hid hh
        obtain ⟨n, hn, hno, hgr⟩ := hasB_nat hh
        have hob := ord_bd hgr
        rw [hn] at cI hck
        have hs1 := ishl_one (n := n) (by omega)
        have hor := ior_pw (o := a) (z := n) ha (by omega)
        have hab : a ||| 2 ^ n < 2 ^ 24 := Nat.or_lt_two_pow ha (Nat.pow_lt_pow_right (by omega) (by omega))
        have Hx := Lib.hid hn
        have Hc := Lib.hid hcell
        clear hh hgr hn hcell
        go_wp2_with (go_at_call 140; refine cI.mono ?_; rintro e w1 ⟨rfl, hE1⟩)
        go_roundw
        case rel => exact ⟨k + 1, a ||| 2 ^ n, by omega, by go_num, rfl, hab, hE.trans hE1, Lib.hid fun j hj => by by_cases e : j = k; (subst e; exact Hh.out); exact H.out j (by omega)⟩
        case measure => (simp [intOf]; omega)
    · have hkl : k = X.length := by omega
      have Hn : Hid ((X.all (hasB l) && isGrp l) = isGrp l) := Lib.hid (by
        have : X.all (hasB l) = true := List.all_eq_true.2 fun x hx => by
          obtain ⟨j, hj, rfl⟩ := mem_nth hx; exact H.out j (by omega)
        rw [this]; rfl)
      clear hkl
      have cG := IsGroup_any v l wr (hg _ hE)
      go_wp2_with (refine cG.mono ?_; rintro e w1 ⟨rfl, hE1⟩)
      exact bodyPost_ret (v := .tuple #[.int .i64 a, .bool (isGrp l)]) (by simp [results, Try.results166, go_sem]) rfl ⟨a, by rw [Hn.out], hE0.trans (hE.trans hE1)⟩
theorem IsFreimanMap_any (v u : Value) (g h : List Int) (vX vY : Value) (X Y : List Int) (w : World) (hv : Ints w v g) (hu : Ints w u h) (hX : Ints w vX X) (hY : Ints w vY Y) :
    Calls Try.prog 146 #[.agg #[v], .agg #[u], vX, vY] w fun e w' => e = .returned (.bool (fmF g h X Y)) ∧ Ext w w' := by
  obtain ⟨wb, hwb⟩ : ∃ wb, wb = (w.alloc (.cells #[v] 30)).alloc (.cells #[u] 30) := ⟨_, rfl⟩
  have hE0 : Ext w wb := by rw [hwb]; exact ((Ext.refl _).alloc _).alloc _
  have B0 : Blk wb w.heap.size 30 #[v] := by rw [hwb]; exact (Blk.new _ _ _).alloc _
  have B1 : Blk wb (w.heap.size + 1) 30 #[u] := by rw [hwb]; simpa using Blk.new (w.alloc (.cells #[v] 30)) 30 #[u]
  have b0 : ∀ W, Ext wb W → W.cell? ⟨w.heap.size, 0, none⟩ = some v := fun W hW => (B0.ext hW).cell (i := 0) rfl
  have b1 : ∀ W, Ext wb W → W.cell? ⟨w.heap.size + 1, 0, none⟩ = some u := fun W hW => (B1.ext hW).cell (i := 0) rfl
  have HV := Lib.hid (fun W (hW : Ext wb W) => hv.ext (hE0.trans hW))
  have HU := Lib.hid (fun W (hW : Ext wb W) => hu.ext (hE0.trans hW))
  have hE := Ext.refl wb
  have Hwb := Lib.hid hwb
  clear hv hu hwb B0 B1
  have HX := Lib.hid (fun W (hW : Ext wb W) => hX.ext (hE0.trans hW))
  have HY := Lib.hid (fun W (hW : Ext wb W) => hY.ext (hE0.trans hW))
  obtain ⟨aoX, cX, -, rfl, -, -, -⟩ := hX.op
  obtain ⟨aoY, cY, -, rfl, -, -, -⟩ := hY.op
  clear hX hY
  have cS := fun W (hW : Ext wb W) => SetOf_any v g _ X W (HV.out W hW) (HX.out W hW)
  have cI := fun W (hW : Ext wb W) => ImageOfMap_any u h _ Y W (HU.out W hW) (HY.out W hW)
  have cN := fun W => within_any ((X.length : Nat) : Int) 1 6 W
  have hin : inB ((X.length : Nat) : Int) 1 6 = decide (1 ≤ X.length ∧ X.length ≤ 6) := by
    rw [Bool.eq_iff_iff, inB_t, decide_eq_true_iff]; omega
  rw [hin] at cN
  have heq : (((Y.length : Nat) : Int) != ((X.length : Nat) : Int)) = !decide (X.length = Y.length) := by
    rw [Bool.eq_iff_iff]; simp; omega
  clear hin
  have Hf : Hid (fineF g h X Y = (soB g X && decide (1 ≤ X.length ∧ X.length ≤ 6) && decide (X.length = Y.length) && (Y.all (hasB h) && isGrp h))) := Lib.hid (by
    unfold fineF
    cases soB g X <;> cases isGrp h <;> cases Y.all (hasB h) <;> cases decide (X.length = Y.length) <;> cases decide (1 ≤ X.length ∧ X.length ≤ 6) <;> rfl)
  cases hf : fineF g h X Y
  · have Hn : Hid (fmF g h X Y = false) := Lib.hid (by unfold fmF; rw [hf]; rfl)
    rw [hf] at Hf
    clear hf
    obtain ⟨d1, hd1⟩ : ∃ d, d = soB g X := ⟨_, rfl⟩
    obtain ⟨d2, hd2⟩ : ∃ d, d = (Y.all (hasB h) && isGrp h) := ⟨_, rfl⟩
    obtain ⟨d3, hd3⟩ : ∃ d, d = decide (X.length = Y.length) := ⟨_, rfl⟩
    obtain ⟨d4, hd4⟩ : ∃ d, d = decide (1 ≤ X.length ∧ X.length ≤ 6) := ⟨_, rfl⟩
    rw [← hd1, ← hd2, ← hd3, ← hd4] at Hf
    rw [← hd1] at cS
    rw [← hd2] at cI
    rw [← hd3] at heq
    rw [← hd4] at cN
    clear hd1 hd2 hd3 hd4
    have Hf2 := Hf.out
    cases d1
    · clear Hf2 Hf
      go_enter Try.func146, Try.ntmps146
      go_wp2_with fail
      rw [← Hwb.out]
      refine (cS _ hE).mono ?_
      rintro e w1 ⟨rfl, hE1⟩
      go_wp2_with fail
      go_ret
      exact ⟨ret_bool Hn.out.symm, hE0.trans hE1⟩
    cases d4
    · clear Hf2 Hf
      go_enter Try.func146, Try.ntmps146
      go_wp2_with fail
      rw [← Hwb.out]
      refine (cS _ hE).mono ?_
      rintro e w1 ⟨rfl, hE1⟩
      go_wp2_with (go_at_call 99; refine (cN _).mono ?_; rintro e w' ⟨rfl, rfl⟩)
      go_ret
      exact ⟨ret_bool Hn.out.symm, hE0.trans hE1⟩
    cases d3
    · clear Hf2 Hf
      go_enter Try.func146, Try.ntmps146
      go_wp2_with fail
      rw [← Hwb.out]
      refine (cS _ hE).mono ?_
      rintro e w1 ⟨rfl, hE1⟩
      go_wp2_with (go_at_call 99; refine (cN _).mono ?_; rintro e w' ⟨rfl, rfl⟩)
      go_ret
      exact ⟨ret_bool Hn.out.symm, hE0.trans hE1⟩
    cases d2
    · clear Hf2 Hf
      go_enter Try.func146, Try.ntmps146
      go_wp2_with fail
      rw [← Hwb.out]
      refine (cS _ hE).mono ?_
      rintro e w1 ⟨rfl, hE1⟩
      have k1 := b1 _ hE1
      go_wp2_with (go_at_call 99; refine (cN _).mono ?_; rintro e w' ⟨rfl, rfl⟩)
      refine (cI _ hE1).mono ?_
      rintro e w2 ⟨z, rfl, hE2⟩
      go_wp2_with fail
      go_ret
      exact ⟨ret_bool Hn.out.symm, hE0.trans (hE1.trans hE2)⟩
    · simp at Hf2
  · have Hn : Hid (fmF g h X Y = kpB g h (natL X) (natL Y)) := Lib.hid (by unfold fmF; rw [hf]; rfl)
    have Hf2 := Hf.out
    rw [hf] at Hf2
    have Hf3 := Hf2.symm
    simp only [Bool.and_eq_true] at Hf3
    obtain ⟨⟨⟨q1, q2⟩, q3⟩, q4, q5⟩ := Hf3
    rw [q1] at cS
    rw [q2] at cN
    rw [q3] at heq
    rw [q4, q5] at cI
    simp only [Bool.not_true, Bool.and_self] at heq cI
    obtain ⟨hg, hh, ⟨L, M, rfl, rfl, hL, hM⟩, hlm, hl6⟩ := fine_nat hf
    rw [castL_len, castL_len] at hlm
    rw [castL_len] at hl6
    rw [natL_cast, natL_cast] at Hn
    have cK := fun W (hW : Ext wb W) => keeps_any v u g h _ _ L M W (HV.out W hW) (HU.out W hW) (Lib.hid hg) (Lib.hid hh) (HX.out W hW) (HY.out W hW) hL hM (by omega) (by omega)
    clear hf hg hh hlm hL hM Hf2 q1 q2 q3 q4 q5 Hf
    go_enter Try.func146, Try.ntmps146
    go_wp2_with fail
    rw [← Hwb.out]
    refine (cS _ hE).mono ?_
    rintro e w1 ⟨rfl, hE1⟩
    have k1 := b1 _ hE1
    go_wp2_with (go_at_call 99; refine (cN _).mono ?_; rintro e w' ⟨rfl, rfl⟩)
    refine (cI _ hE1).mono ?_
    rintro e w2 ⟨z, rfl, hE2⟩
    have hE12 := hE1.trans hE2
    have k02 := b0 _ hE12
    have k12 := b1 _ hE12
    go_wp2_with fail
    refine (cK _ hE12).mono ?_
    rintro e w3 ⟨rfl, hE3⟩
    go_wp2_with fail
    go_ret
    exact ⟨ret_bool Hn.out.symm, hE0.trans (hE12.trans hE3)⟩
theorem IsFreimanIso_any (v u : Value) (g h : List Int) (vX vY : Value) (X Y : List Int) (w : World) (hv : Ints w v g) (hu : Ints w u h) (hX : Ints w vX X) (hY : Ints w vY Y) :
    Calls Try.prog 90 #[.agg #[v], .agg #[u], vX, vY] w fun e w' => e = .returned (.bool (isoF g h X Y)) ∧ Ext w w' := by
  obtain ⟨wb, hwb⟩ : ∃ wb, wb = (w.alloc (.cells #[v] 30)).alloc (.cells #[u] 30) := ⟨_, rfl⟩
  have hE0 : Ext w wb := by rw [hwb]; exact ((Ext.refl _).alloc _).alloc _
  have B0 : Blk wb w.heap.size 30 #[v] := by rw [hwb]; exact (Blk.new _ _ _).alloc _
  have B1 : Blk wb (w.heap.size + 1) 30 #[u] := by rw [hwb]; simpa using Blk.new (w.alloc (.cells #[v] 30)) 30 #[u]
  have b0 : ∀ W, Ext wb W → W.cell? ⟨w.heap.size, 0, none⟩ = some v := fun W hW => (B0.ext hW).cell (i := 0) rfl
  have b1 : ∀ W, Ext wb W → W.cell? ⟨w.heap.size + 1, 0, none⟩ = some u := fun W hW => (B1.ext hW).cell (i := 0) rfl
  have HV := Lib.hid (fun W (hW : Ext wb W) => hv.ext (hE0.trans hW))
  have HU := Lib.hid (fun W (hW : Ext wb W) => hu.ext (hE0.trans hW))
  have hE := Ext.refl wb
  have Hwb := Lib.hid hwb
  clear hv hu hwb B0 B1
  have HX := Lib.hid (fun W (hW : Ext wb W) => hX.ext (hE0.trans hW))
  have HY := Lib.hid (fun W (hW : Ext wb W) => hY.ext (hE0.trans hW))
  clear hX hY
  have cF := fun W (hW : Ext wb W) => IsFreimanMap_any v u g h vX vY X Y W (HV.out W hW) (HU.out W hW) (HX.out W hW) (HY.out W hW)
  have cG := fun W (hW : Ext wb W) => IsFreimanMap_any u v h g vY vX Y X W (HU.out W hW) (HV.out W hW) (HY.out W hW) (HX.out W hW)
  cases hf : fmF g h X Y
  · have Hn : Hid (isoF g h X Y = false) := Lib.hid (by unfold isoF; rw [hf]; rfl)
    rw [hf] at cF
    go_enter Try.func90, Try.ntmps90
    go_wp2_with fail
    rw [← Hwb.out]
    refine (cF _ hE).mono ?_
    rintro e w1 ⟨rfl, hE1⟩
    go_wp2_with fail
    go_ret
    exact ⟨ret_bool Hn.out.symm, hE0.trans hE1⟩
  · have Hn : Hid (isoF g h X Y = fmF h g Y X) := Lib.hid (by unfold isoF; rw [hf]; rfl)
    rw [hf] at cF
    go_enter Try.func90, Try.ntmps90
    go_wp2_with fail
    rw [← Hwb.out]
    refine (cF _ hE).mono ?_
    rintro e w1 ⟨rfl, hE1⟩
    have k0 := b0 _ hE1
    have k1 := b1 _ hE1
    go_wp2_with fail
    refine (cG _ hE1).mono ?_
    rintro e w2 ⟨rfl, hE2⟩
    go_wp2_with fail
    go_ret
    exact ⟨ret_bool Hn.out.symm, hE0.trans (hE1.trans hE2)⟩
end Go.Zz

/- Colorings: triples of Schur, IsColoring, IsSchurColoring of both. -/
namespace Go.Zz
open Go.RowKit Go.Proofs
set_option maxHeartbeats 1000000
set_option maxRecDepth 4000

def eq3 (c : List Int) (z x : Nat) : Bool := (nth c (x - 1) == nth c (z - 1)) && (nth c (z - x - 1) == nth c (z - 1))
def rowZ (c : List Int) (z : Nat) : Bool := (List.range (z + 1)).any fun x => decide (1 ≤ x ∧ 2 * x ≤ z) && eq3 c z x
def stB (c : List Int) : Bool := decide (c.length ≤ 40) && (List.range (c.length + 1)).any fun z => decide (2 ≤ z) && rowZ c z
theorem eq3_no1 {c : List Int} {z x : Nat} (h : (nth c (x - 1) == nth c (z - 1)) = false) : eq3 c z x = false := by unfold eq3; rw [h]; rfl
theorem eq3_yes1 {c : List Int} {z x : Nat} (h : (nth c (x - 1) == nth c (z - 1)) = true) : eq3 c z x = (nth c (z - x - 1) == nth c (z - 1)) := by unfold eq3; rw [h]; rfl
theorem rowZ_no {c : List Int} {z n : Nat} (hn : z < 2 * n) (h : ∀ x, 1 ≤ x → x < n → eq3 c z x = false) : rowZ c z = false := by
  unfold rowZ; rw [List.any_eq_false]
  intro x _
  by_cases h2 : 1 ≤ x ∧ 2 * x ≤ z
  · rw [h x h2.1 (by omega)]; simp
  · simp [h2]
theorem stB_yes {c : List Int} {z x : Nat} (hc : c.length ≤ 40) (hz : 2 ≤ z) (hz2 : z ≤ c.length) (hx : 1 ≤ x) (hx2 : 2 * x ≤ z) (h : eq3 c z x = true) : stB c = true := by
  unfold stB
  rw [decide_eq_true hc, Bool.true_and, List.any_eq_true]
  refine ⟨z, List.mem_range.2 (by omega), ?_⟩
  rw [decide_eq_true hz, Bool.true_and]
  unfold rowZ
  rw [List.any_eq_true]
  exact ⟨x, List.mem_range.2 (by omega), by rw [h, decide_eq_true ⟨hx, hx2⟩]; rfl⟩
theorem stB_no {c : List Int} {n : Nat} (hn : c.length < n) (h : ∀ z, 2 ≤ z → z < n → rowZ c z = false) : stB c = false := by
  unfold stB
  rw [Bool.and_eq_false_iff]; right
  rw [List.any_eq_false]
  intro z hz
  rw [List.mem_range] at hz
  by_cases h2 : 2 ≤ z
  · rw [h z h2 (by omega)]; simp
  · simp [h2]
theorem stB_long {c : List Int} (h : ¬ c.length ≤ 40) : stB c = false := by unfold stB; rw [decide_eq_false h]; rfl
def icB (c : List Int) (k : Int) : Bool := inB k 1 4 && (decide (c.length ≤ 40) && c.all fun x => inB x 0 (k - 1))
def iscB (c : List Int) (k : Int) : Bool := icB c k && !stB c

theorem SchurTriple_any (v : Value) (c : List Int) (w : World) (h : Ints w v c) :
    Calls Try.prog 147 #[v] w fun e w' => TB (stB c) e ∧ Ext w w' := by
  obtain ⟨ao, k, adr, rfl, hlen, hadr, hcell⟩ := h.op
  have hix := ints_index (c := k) elI szI hadr
  clear hadr h
  by_cases hlg : c.length ≤ 40
  rotate_left
  · have Hs := Lib.hid (stB_long hlg)
    have hgt : ¬ ((c.length : Int) ≤ 40) := by omega
    have hgt2 : (40 : Int) < (c.length : Int) := by omega
    clear hlg hix hcell
    go_enter Try.func147, Try.ntmps147
    go_wp2_with fail
    rw [Hs.out]; exact bodyPost_ret (v := .tuple #[.slice (some ⟨w.heap.size, 0, none⟩) 0 0, .bool false]) (by simp [results, Try.results147, go_sem]) rfl ⟨TB.mk _ _, (Ext.refl _).alloc _⟩
  have hle : (c.length : Int) ≤ 40 := by omega
  have hle2 : ¬ ((40 : Int) < (c.length : Int)) := by omega
  go_enter Try.func147, Try.ntmps147
  go_wp2_with fail
  go_loopw [4] (fun zv wr => ∃ z : Nat, 2 ≤ z ∧ zv = .int .i64 z ∧ z ≤ c.length + 2 ∧ Hid (∀ z', 2 ≤ z' → z' < z → rowZ c z' = false) ∧ Ext w wr) (fun zv _ => c.length + 2 - (intOf zv).toNat)
  case atStart => exact ⟨2, by omega, rfl, by omega, Lib.hid (by omega), Ext.refl _⟩
  case round =>
    obtain ⟨z, hz, rfl, hzb, H, hE⟩ := hrel
    by_cases hlt : z ≤ c.length
    · have hltI : (z : Int) ≤ (c.length : Int) := by omega
      go_wp2_with fail
      rename World => wz
      go_loopw [5] (fun xv wr => ∃ x : Nat, 1 ≤ x ∧ 2 * x ≤ z + 2 ∧ xv = .int .i64 x ∧ Hid (∀ x', 1 ≤ x' → x' < x → eq3 c z x' = false) ∧ Ext w wr) (fun xv _ => z + 2 - (intOf xv).toNat)
      case atStart => exact ⟨1, by omega, by omega, rfl, Lib.hid (by omega), hE⟩
      case round =>
        clear hE
        obtain ⟨x, hx1, hx2, rfl, Hall, hE⟩ := hrel
        by_cases hlx : 2 * x ≤ z
        · have hc1 := fun U => hcell (x - 1) _ (by omega) (lat_ext w U)
          have hc2 := fun U => hcell (z - 1) _ (by omega) (lat_ext w U)
          have hc3 := fun U => hcell (z - x - 1) _ (by omega) (lat_ext w U)
          have ix1 : ∀ W, (Instr.indexAt 22 (.slice ao c.length k) (.int .i64 ((x : Int) - 1))).run Try.prog W = .ok (.pointer (some (adr (x - 1)))) W := fun W => by rw [show ((x : Int) - 1) = ((x - 1 : Nat) : Int) by omega]; exact hix _ W (by omega)
          have ix2 : ∀ W, (Instr.indexAt 22 (.slice ao c.length k) (.int .i64 ((z : Int) - 1))).run Try.prog W = .ok (.pointer (some (adr (z - 1)))) W := fun W => by rw [show ((z : Int) - 1) = ((z - 1 : Nat) : Int) by omega]; exact hix _ W (by omega)
          have ix3 : ∀ W, (Instr.indexAt 22 (.slice ao c.length k) (.int .i64 ((z : Int) - (x : Int) - 1))).run Try.prog W = .ok (.pointer (some (adr (z - x - 1)))) W := fun W => by rw [show ((z : Int) - (x : Int) - 1) = ((z - x - 1 : Nat) : Int) by omega]; exact hix _ W (by omega)
          have hg1 : (1 : Int) ≤ (z : Int) - (x : Int) := by omega
          have hg3 : (2 : Int) * (x : Int) ≤ (z : Int) := by omega
          clear hix hcell
          cases e1 : (nth c (x - 1) == nth c (z - 1))
          · have He := Lib.hid (eq3_no1 e1)
            go_wp2_with fail
            (refine wp_region_lat (w) (by kernel_rfl) (by kernel_rfl) hE ?_); (repeat (go_big_quiet_step (first | fail))); (refine wpQuiet_nil ?_); (intro W hE'); (replace hE := lat_of hE'); (clear hE')
            go_wp2_with fail
            go_roundw
            case rel => exact ⟨x + 1, by omega, by omega, by go_num, Lib.hid fun y hy1 hy2 => by by_cases e : y = x; (subst e; exact He.out); exact Hall.out y hy1 (by omega), hE⟩
            case measure => (simp [intOf]; omega)
          · cases e2 : (nth c (z - x - 1) == nth c (z - 1))
            · have He := Lib.hid ((eq3_yes1 e1).trans e2)
              go_wp2_with fail
              (refine wp_region_lat (w) (by kernel_rfl) (by kernel_rfl) hE ?_); (repeat (go_big_quiet_step (first | fail))); (refine wpQuiet_nil ?_); (intro W hE'); (replace hE := lat_of hE'); (clear hE')
              go_wp2_with fail
              go_roundw
              case rel => exact ⟨x + 1, by omega, by omega, by go_num, Lib.hid fun y hy1 hy2 => by by_cases e : y = x; (subst e; exact He.out); exact Hall.out y hy1 (by omega), hE⟩
              case measure => (simp [intOf]; omega)
            · have He := Lib.hid (stB_yes hlg hz hlt hx1 hlx ((eq3_yes1 e1).trans e2))
              go_wp2_with fail
              (refine wp_region_lat (w) (by kernel_rfl) (by kernel_rfl) hE ?_); (repeat (go_big_quiet_step (first | fail))); (refine wpQuiet_nil ?_); (intro W hE'); (replace hE := lat_of hE'); (clear hE')
              go_wp2_with fail
              rw [He.out]
              exact bodyPost_ret (v := .tuple #[.slice (some ⟨W.heap.size, 0, none⟩) 3 3, .bool true]) (by simp [results, Try.results147, go_sem]) rfl ⟨TB.mk _ _, hE.alloc _⟩
        · have Hrow : Hid (rowZ c z = false) := Lib.hid (rowZ_no (n := x) (by omega) Hall.out)
          have hnl : ¬ ((2 : Int) * (x : Int) ≤ (z : Int)) := by omega
          go_wp2_with fail
          go_roundw
          case rel => exact ⟨z + 1, by omega, by go_num, by omega, Lib.hid fun y hy1 hy2 => by by_cases e : y = z; (subst e; exact Hrow.out); exact H.out y hy1 (by omega), hE⟩
          case measure => (simp [intOf]; omega)
    · have Hs := Lib.hid (stB_no (n := z) (by omega) H.out)
      have hnl : ¬ ((z : Int) ≤ (c.length : Int)) := by omega
      go_wp2_with fail
      rw [Hs.out]
      exact bodyPost_ret (v := .tuple #[.slice (some ⟨wr.heap.size, 0, none⟩) 0 0, .bool false]) (by simp [results, Try.results147, go_sem]) rfl ⟨TB.mk _ _, hE.alloc _⟩
theorem sSchurTriple_any (v : Value) (c : List Int) (w : World) (h : Ints w v c) :
    Calls Try.prog 134 #[v] w fun e w' => TB (stB c) e ∧ Ext w w' := by
  obtain ⟨ao, k, adr, rfl, hlen, hadr, hcell⟩ := h.op
  have hix := ints_index (c := k) elI szI hadr
  clear hadr h
  by_cases hlg : c.length ≤ 40
  rotate_left
  · have Hs := Lib.hid (stB_long hlg)
    have hgt : ¬ ((c.length : Int) ≤ 40) := by omega
    have hgt2 : (40 : Int) < (c.length : Int) := by omega
    clear hlg hix hcell
    go_enter Try.func134, Try.ntmps134
    go_wp2_with fail
    (go_loopw [4] (fun zv wr => zv = .int .i64 2 ∧ Ext w wr) (fun _ _ => 0); (case atStart => exact ⟨rfl, Ext.refl _⟩); (case round => (obtain ⟨rfl, hE⟩ := hrel; go_wp2_with fail; rw [Hs.out]; exact bodyPost_ret (v := .tuple #[.slice (some ⟨wr.heap.size, 0, none⟩) 0 0, .bool false]) (by simp [results, Try.results134, go_sem]) rfl ⟨TB.mk _ _, hE.alloc _⟩)))
  have hle : (c.length : Int) ≤ 40 := by omega
  have hle2 : ¬ ((40 : Int) < (c.length : Int)) := by omega
  go_enter Try.func134, Try.ntmps134
  go_wp2_with fail
  go_loopw [4] (fun zv wr => ∃ z : Nat, 2 ≤ z ∧ zv = .int .i64 z ∧ z ≤ c.length + 2 ∧ Hid (∀ z', 2 ≤ z' → z' < z → rowZ c z' = false) ∧ Ext w wr) (fun zv _ => c.length + 2 - (intOf zv).toNat)
  case atStart => exact ⟨2, by omega, rfl, by omega, Lib.hid (by omega), Ext.refl _⟩
  case round =>
    obtain ⟨z, hz, rfl, hzb, H, hE⟩ := hrel
    by_cases hlt : z ≤ c.length
    · have hltI : (z : Int) ≤ (c.length : Int) := by omega
      go_wp2_with fail
      rename World => wz
      go_loopw [5] (fun xv wr => ∃ x : Nat, 1 ≤ x ∧ 2 * x ≤ z + 2 ∧ xv = .int .i64 x ∧ Hid (∀ x', 1 ≤ x' → x' < x → eq3 c z x' = false) ∧ Ext w wr) (fun xv _ => z + 2 - (intOf xv).toNat)
      case atStart => exact ⟨1, by omega, by omega, rfl, Lib.hid (by omega), hE⟩
      case round =>
        clear hE
        obtain ⟨x, hx1, hx2, rfl, Hall, hE⟩ := hrel
        by_cases hlx : 2 * x ≤ z
        · have hc1 := fun U => hcell (x - 1) _ (by omega) (lat_ext w U)
          have hc2 := fun U => hcell (z - 1) _ (by omega) (lat_ext w U)
          have hc3 := fun U => hcell (z - x - 1) _ (by omega) (lat_ext w U)
          have ix1 : ∀ W, (Instr.indexAt 22 (.slice ao c.length k) (.int .i64 ((x : Int) - 1))).run Try.prog W = .ok (.pointer (some (adr (x - 1)))) W := fun W => by rw [show ((x : Int) - 1) = ((x - 1 : Nat) : Int) by omega]; exact hix _ W (by omega)
          have ix2 : ∀ W, (Instr.indexAt 22 (.slice ao c.length k) (.int .i64 ((z : Int) - 1))).run Try.prog W = .ok (.pointer (some (adr (z - 1)))) W := fun W => by rw [show ((z : Int) - 1) = ((z - 1 : Nat) : Int) by omega]; exact hix _ W (by omega)
          have ix3 : ∀ W, (Instr.indexAt 22 (.slice ao c.length k) (.int .i64 ((z : Int) - (x : Int) - 1))).run Try.prog W = .ok (.pointer (some (adr (z - x - 1)))) W := fun W => by rw [show ((z : Int) - (x : Int) - 1) = ((z - x - 1 : Nat) : Int) by omega]; exact hix _ W (by omega)
          have hg1 : (1 : Int) ≤ (z : Int) - (x : Int) := by omega
          have hg3 : (2 : Int) * (x : Int) ≤ (z : Int) := by omega
          clear hix hcell
          cases e1 : (nth c (x - 1) == nth c (z - 1))
          · have He := Lib.hid (eq3_no1 e1)
            go_wp2_with fail
            (refine wp_region_lat (w) (by kernel_rfl) (by kernel_rfl) hE ?_); (repeat (go_big_quiet_step (first | fail))); (refine wpQuiet_nil ?_); (intro W hE'); (replace hE := lat_of hE'); (clear hE')
            go_wp2_with fail
            go_roundw
            case rel => exact ⟨x + 1, by omega, by omega, by go_num, Lib.hid fun y hy1 hy2 => by by_cases e : y = x; (subst e; exact He.out); exact Hall.out y hy1 (by omega), hE⟩
            case measure => (simp [intOf]; omega)
          · cases e2 : (nth c (z - x - 1) == nth c (z - 1))
            · have He := Lib.hid ((eq3_yes1 e1).trans e2)
              go_wp2_with fail
              (refine wp_region_lat (w) (by kernel_rfl) (by kernel_rfl) hE ?_); (repeat (go_big_quiet_step (first | fail))); (refine wpQuiet_nil ?_); (intro W hE'); (replace hE := lat_of hE'); (clear hE')
              go_wp2_with fail
              go_roundw
              case rel => exact ⟨x + 1, by omega, by omega, by go_num, Lib.hid fun y hy1 hy2 => by by_cases e : y = x; (subst e; exact He.out); exact Hall.out y hy1 (by omega), hE⟩
              case measure => (simp [intOf]; omega)
            · have He := Lib.hid (stB_yes hlg hz hlt hx1 hlx ((eq3_yes1 e1).trans e2))
              go_wp2_with fail
              (refine wp_region_lat (w) (by kernel_rfl) (by kernel_rfl) hE ?_); (repeat (go_big_quiet_step (first | fail))); (refine wpQuiet_nil ?_); (intro W hE'); (replace hE := lat_of hE'); (clear hE')
              go_wp2_with fail
              rw [He.out]
              exact bodyPost_ret (v := .tuple #[.slice (some ⟨W.heap.size, 0, none⟩) 3 3, .bool true]) (by simp [results, Try.results134, go_sem]) rfl ⟨TB.mk _ _, hE.alloc _⟩
        · have Hrow : Hid (rowZ c z = false) := Lib.hid (rowZ_no (n := x) (by omega) Hall.out)
          have hnl : ¬ ((2 : Int) * (x : Int) ≤ (z : Int)) := by omega
          go_wp2_with fail
          go_roundw
          case rel => exact ⟨z + 1, by omega, by go_num, by omega, Lib.hid fun y hy1 hy2 => by by_cases e : y = z; (subst e; exact Hrow.out); exact H.out y hy1 (by omega), hE⟩
          case measure => (simp [intOf]; omega)
    · have Hs := Lib.hid (stB_no (n := z) (by omega) H.out)
      have hnl : ¬ ((z : Int) ≤ (c.length : Int)) := by omega
      go_wp2_with fail
      rw [Hs.out]
      exact bodyPost_ret (v := .tuple #[.slice (some ⟨wr.heap.size, 0, none⟩) 0 0, .bool false]) (by simp [results, Try.results134, go_sem]) rfl ⟨TB.mk _ _, hE.alloc _⟩
theorem icB_k {c : List Int} {k : Int} (h : inB k 1 4 = false) : icB c k = false := by unfold icB; rw [h]; rfl
theorem icB_long {c : List Int} {k : Int} (h : ¬ c.length ≤ 40) : icB c k = false := by unfold icB; rw [decide_eq_false h]; simp
theorem icB_out {c : List Int} {k : Int} {j : Nat} (hj : j < c.length) (h : inB (nth c j) 0 (k - 1) = false) : icB c k = false := by
  unfold icB
  have : (c.all fun x => inB x 0 (k - 1)) = false := by
    rw [List.all_eq_false]; exact ⟨_, nth_mem hj, by rw [h]; simp⟩
  rw [this]; simp
theorem icB_end {c : List Int} {k : Int} (h0 : inB k 1 4 = true) (h : ∀ j, j < c.length → inB (nth c j) 0 (k - 1) = true) : icB c k = decide (c.length ≤ 40) := by
  unfold icB
  have : (c.all fun x => inB x 0 (k - 1)) = true := List.all_eq_true.2 fun x hx => by
    obtain ⟨j, hj, rfl⟩ := mem_nth hx; exact h j hj
  rw [this, h0]; simp
theorem colors_any (v : Value) (c : List Int) (k : Int) (w : World) (h : Ints w v c) (Hk : Hid (inB k 1 4 = true)) :
    Calls Try.prog 167 #[v, .int .i64 k, .int .i64 40] w fun e w' => e = .returned (.bool (icB c k)) ∧ w = w' := by
  obtain ⟨ao, kc, adr, rfl, hlen, hadr, hcell⟩ := h.op
  have hix := ints_index (c := kc) elI szI hadr
  have hkb := inB_t.1 Hk.out
  have hw : IntKind.i64.wrap (k - 1) = k - 1 := IntWalk.i64_in _ (by omega)
  clear hadr h
  go_enter Try.func167, Try.ntmps167
  go_wp2_with fail
  go_loopw [11] (fun jv wr => ∃ j : Nat, j ≤ c.length ∧ jv = .int .i64 j ∧ Hid (∀ y, y < j → inB (nth c y) 0 (k - 1) = true) ∧ w = wr) (fun jv _ => c.length - (intOf jv).toNat)
  case atStart => exact ⟨0, by omega, rfl, Lib.hid (by omega), rfl⟩
  case round =>
    obtain ⟨j, hj, rfl, H, rfl⟩ := hrel
    by_cases hlt : j < c.length
    · have hck := hcell j w hlt (Ext.refl _)
      cases hq : inB (nth c j) 0 (k - 1)
      · have Hn := Lib.hid (icB_out hlt hq)
        have cI := fun W => within_any (nth c j) 0 (k - 1) W
        rw [hq] at cI
        clear hq
        go_wp2_with (refine (cI _).mono ?_; rintro e w' ⟨rfl, rfl⟩)
        go_ret
        exact ⟨ret_bool Hn.out.symm, rfl⟩
      · have Hh := Lib.hid hq
        have cI := fun W => within_any (nth c j) 0 (k - 1) W
        rw [hq] at cI
        clear hq
        go_wp2_with (refine (cI _).mono ?_; rintro e w' ⟨rfl, rfl⟩)
        go_roundw
        case rel => exact ⟨j + 1, by omega, by go_num, Lib.hid fun y hy => by by_cases e : y = j; (subst e; exact Hh.out); exact H.out y (by omega), (by first | trivial | rfl)⟩
        case measure => (simp [intOf]; omega)
    · have hjl : j = c.length := by omega
      have Hn := Lib.hid (icB_end Hk.out fun y hy => H.out y (by omega))
      go_wp2_with fail
      go_ret
      exact ⟨ret_bool (by rw [Hn.out, Bool.eq_iff_iff]; simp; try omega), rfl⟩
theorem IsColoring_any (v : Value) (c : List Int) (k : Int) (w : World) (h : Ints w v c) :
    Calls Try.prog 148 #[v, .int .i64 k] w fun e w' => e = .returned (.bool (icB c k)) ∧ w = w' := by
  cases hk : inB k 1 4
  · have Hn := Lib.hid (icB_k (c := c) hk)
    have cI := fun W => within_any k 1 4 W
    rw [hk] at cI
    go_enter Try.func148, Try.ntmps148
    go_wp2_with (refine (cI _).mono ?_; rintro e w' ⟨rfl, rfl⟩)
    go_ret
    exact ⟨ret_bool Hn.out.symm, rfl⟩
  · have cC := colors_any v c k w h (Lib.hid hk)
    have cI := fun W => within_any k 1 4 W
    rw [hk] at cI
    go_enter Try.func148, Try.ntmps148
    go_wp2_with (first | (go_at_call 99; refine (cI _).mono ?_; rintro e w' ⟨rfl, rfl⟩) | (go_at_call 167; refine cC.mono ?_; rintro e w' ⟨rfl, rfl⟩))
    go_ret
    exact ⟨rfl, rfl⟩
theorem sIsColoring_any (v : Value) (c : List Int) (k : Int) (w : World) (h : Ints w v c) :
    Calls Try.prog 135 #[v, .int .i64 k] w fun e w' => e = .returned (.bool (icB c k)) ∧ w = w' := by
  obtain ⟨ao, kc, adr, rfl, hlen, hadr, hcell⟩ := h.op
  have hix := ints_index (c := kc) elI szI hadr
  clear hadr h
  have cK := fun W => l1In_any k 1 4 W
  cases hk : inB k 1 4
  · have Hn := Lib.hid (icB_k (c := c) hk)
    rw [hk] at cK
    go_enter Try.func135, Try.ntmps135
    go_wp2_with (refine (cK _).mono ?_; rintro e w' ⟨rfl, rfl⟩)
    go_ret
    exact ⟨ret_bool Hn.out.symm, rfl⟩
  rw [hk] at cK
  by_cases hlg : c.length ≤ 40
  rotate_left
  · have Hn := Lib.hid (icB_long (k := k) hlg)
    have hgt2 : (40 : Int) < (c.length : Int) := by omega
    clear hlg
    go_enter Try.func135, Try.ntmps135
    go_wp2_with (refine (cK _).mono ?_; rintro e w' ⟨rfl, rfl⟩)
    go_ret
    exact ⟨ret_bool Hn.out.symm, rfl⟩
  have Hk := Lib.hid hk
  have hkb := inB_t.1 hk
  have hw : IntKind.i64.wrap (k - 1) = k - 1 := IntWalk.i64_in _ (by omega)
  have hle2 : ¬ ((40 : Int) < (c.length : Int)) := by omega
  have Hlg := Lib.hid hlg
  clear hk hlg
  go_enter Try.func135, Try.ntmps135
  go_wp2_with (refine (cK _).mono ?_; rintro e w' ⟨rfl, rfl⟩)
  go_loopw [5] (fun jv wr => ∃ j : Nat, j ≤ c.length ∧ jv = .int .i64 j ∧ Hid (∀ y, y < j → inB (nth c y) 0 (k - 1) = true) ∧ w = wr) (fun jv _ => c.length - (intOf jv).toNat)
  case atStart => exact ⟨0, by omega, rfl, Lib.hid (by omega), rfl⟩
  case round =>
    obtain ⟨j, hj, rfl, H, rfl⟩ := hrel
    by_cases hlt : j < c.length
    · have hck := hcell j w hlt (Ext.refl _)
      cases hq : inB (nth c j) 0 (k - 1)
      · have Hn := Lib.hid (icB_out hlt hq)
        have cI := fun W => l1In_any (nth c j) 0 (k - 1) W
        rw [hq] at cI
        clear hq
        go_wp2_with (refine (cI _).mono ?_; rintro e w' ⟨rfl, rfl⟩)
        go_ret
        exact ⟨ret_bool Hn.out.symm, rfl⟩
      · have Hh := Lib.hid hq
        have cI := fun W => l1In_any (nth c j) 0 (k - 1) W
        rw [hq] at cI
        clear hq
        go_wp2_with (refine (cI _).mono ?_; rintro e w' ⟨rfl, rfl⟩)
        go_roundw
        case rel => exact ⟨j + 1, by omega, by go_num, Lib.hid fun y hy => by by_cases e : y = j; (subst e; exact Hh.out); exact H.out y (by omega), (by first | trivial | rfl)⟩
        case measure => (simp [intOf]; omega)
    · have hjl : j = c.length := by omega
      have Hn := Lib.hid (icB_end Hk.out fun y hy => H.out y (by omega))
      go_wp2_with fail
      go_ret
      exact ⟨ret_bool (by rw [Hn.out, decide_eq_true Hlg.out]), rfl⟩
theorem IsSchurColoring_any (v : Value) (c : List Int) (k : Int) (w : World) (h : Ints w v c) :
    Calls Try.prog 91 #[v, .int .i64 k] w fun e w' => e = .returned (.bool (iscB c k)) ∧ Ext w w' := by
  have cT := SchurTriple_any v c w h
  have cC := fun W (hW : Ext w W) => IsColoring_any v c k W (h.ext hW)
  obtain ⟨b1, hb1⟩ : ∃ x, x = icB c k := ⟨_, rfl⟩
  obtain ⟨b2, hb2⟩ : ∃ x, x = stB c := ⟨_, rfl⟩
  have Hn : Hid (iscB c k = (b1 && !b2)) := Lib.hid (by unfold iscB; rw [hb1, hb2])
  rw [← hb1] at cC
  rw [← hb2] at cT
  obtain ⟨ao, kc, adr, rfl, -, -, -⟩ := h.op
  clear hb1 hb2 h
  cases b1 <;> cases b2
  all_goals
    go_enter Try.func91, Try.ntmps91
    go_wp2_with fail
    refine cT.mono ?_
    rintro e w1 ⟨⟨v1, rfl⟩, hE1⟩
    go_wp2_with (refine (cC _ hE1).mono ?_; rintro e w' ⟨rfl, rfl⟩)
    go_ret
    exact ⟨ret_bool (by rw [Hn.out]; rfl), hE1⟩
theorem sIsSchurColoring_any (v : Value) (c : List Int) (k : Int) (w : World) (h : Ints w v c) :
    Calls Try.prog 76 #[v, .int .i64 k] w fun e w' => e = .returned (.bool (iscB c k)) ∧ Ext w w' := by
  have cT := sSchurTriple_any v c w h
  have cC := fun W (hW : Ext w W) => sIsColoring_any v c k W (h.ext hW)
  obtain ⟨b1, hb1⟩ : ∃ x, x = icB c k := ⟨_, rfl⟩
  obtain ⟨b2, hb2⟩ : ∃ x, x = stB c := ⟨_, rfl⟩
  have Hn : Hid (iscB c k = (b1 && !b2)) := Lib.hid (by unfold iscB; rw [hb1, hb2])
  rw [← hb1] at cC
  rw [← hb2] at cT
  obtain ⟨ao, kc, adr, rfl, -, -, -⟩ := h.op
  clear hb1 hb2 h
  cases b1 <;> cases b2
  all_goals
    go_enter Try.func76, Try.ntmps76
    go_wp2_with fail
    refine cT.mono ?_
    rintro e w1 ⟨⟨v1, rfl⟩, hE1⟩
    go_wp2_with (refine (cC _ hE1).mono ?_; rintro e w' ⟨rfl, rfl⟩)
    go_ret
    exact ⟨ret_bool (by rw [Hn.out]; rfl), hE1⟩
end Go.Zz

/- Claims that a checker accepts: plain words. -/
namespace Go.Zz
open Go.RowKit Go.Proofs

def c1F (g : List Int) (a b s p : Int) : Bool := fullB g a b && ((s == ((sumF g a.toNat b.toNat : Nat) : Int)) && (p == ((stabF g (sumF g a.toNat b.toNat) : Nat) : Int)))
def c7F (g : List Int) (a s p : Int) : Bool := smallF g a && ((p == ((sumF g a.toNat (oppF g a.toNat) : Nat) : Int)) && subB g p && (s == ((sumF g a.toNat p.toNat : Nat) : Int)) && (((cnt s.toNat : Nat) : Int) == ((cnt p.toNat : Nat) : Int)))
def ccF (k : Int) (g o : List Int) (a b s p : Int) (t q : List Int) (n : Int) : Bool :=
  if k = 1 then c1F g a b s p else
  if k = 2 then (seqB g t && zsB g q && decide (q.length ≠ 0) && subM t q) else
  if k = 3 then zfB g t else
  if k = 4 then tilF g a b else
  if k = 5 then (soB g t && soB o q && (soV g t == a) && (soV o q == b) && isoF g o t q) else
  if k = 6 then iscB t n else
  if k = 7 then c7F g a s p else false
end Go.Zz
