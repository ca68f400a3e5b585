/- The shortest part with the sum 0; claims of sequences. -/
import Derived.Test.YtohdnnamjcfnnaaC47
import Derived.Test.YtohdnnamjcfnnaaC38
namespace Go.Zz
open Go.RowKit Go.Proofs
set_option maxHeartbeats 2000000
set_option maxRecDepth 20000

theorem castL_inj : ∀ {A B : List Nat}, castL A = castL B → A = B := fun {A B} e => by
  have := congrArg (List.map Int.toNat) e
  simpa [castL, Function.comp_def] using this
theorem castL_nat (X : List Nat) : (castL X).map Int.toNat = X := by simp [castL, Function.comp_def]
theorem seqB_natX {l : List Int} {X : List Nat} (h : seqB l (castL X) = true) : X.length ≤ 12 ∧ isGrp l = true ∧ ∀ x ∈ X, x < 24 := by
  obtain ⟨X', e1, -, h12, hgr, hall⟩ := seqB_nat h
  obtain rfl := castL_inj e1
  exact ⟨h12, hgr, hall⟩
theorem ShortestZero_seq (v u : Value) (l : List Int) (X : List Nat) (w : World) (h : Ints w v l) (hu : Ints w u (castL X)) (hs : seqB l (castL X) = true) :
    Calls Try.prog 113 #[.agg #[v], u] w fun e w' => ∃ p, e = .returned (.tuple #[p, .bool (szB l X)]) ∧ Own 3 w w' p (castL (szR l X)) ∧ Ext w w' := by
  obtain ⟨wb, hwb⟩ : ∃ wb, wb = w.alloc (.cells #[v] 28) := ⟨_, rfl⟩
  have hE0 := (Ext.refl w).alloc (.cells #[v] 28)
  have hb := box_cell w v 28
  rw [← hwb] at hE0 hb
  have hg : ∀ W, Ext wb W → Ints W v l := fun W hW => h.ext (hE0.trans hW)
  have hE := Ext.refl wb
  have Hsz : Hid (w.heap.size + 1 = wb.heap.size) := Lib.hid (by rw [hwb]; simp [go_sem])
  have Hwb := Lib.hid hwb
  clear hwb h
  obtain ⟨h12, hgr, hall⟩ := seqB_natX hs
  have Hgu : Hid (∀ W, Ext wb W → Ints W u (castL X)) := Lib.hid fun W hW => hu.ext (hE0.trans hW)
  obtain ⟨ao, c, adr, rfl, hadr, hcell⟩ := hu.nats
  have Hat := Lib.hid (fun (k : Nat) a b c => sz_at (l := l) h12 (k := k) a b c)
  have Hnone := Lib.hid (fun a => sz_none (l := l) h12 a)
  clear hall hgr hadr hcell hu
  go_enter Try.func113, Try.ntmps113
  go_wp2_with fail
  rw [← Hwb.out]
  go_loopw [6] (fun i wr => ∃ k : Nat, 1 ≤ k ∧ k ≤ X.length + 1 ∧ i = .int .i64 k ∧ (∀ j, 1 ≤ j → j < k → zolB l X j = false) ∧ Ext wb wr) (fun i _ => X.length + 1 - (intOf i).toNat)
  case atStart => exact ⟨1, by omega, by omega, rfl, by omega, hE⟩
  case round =>
    clear hE
    obtain ⟨k, hk1, hk2, rfl, hno, hE⟩ := hrel
    have Hno := Lib.hid hno
    have hbx := hb _ hE
    clear hno
    by_cases hlt : k ≤ X.length
    · cases hz : zolB l X k
      · have Hz := Lib.hid hz
        go_wp2_with (first | (go_at_call 111; refine (IsSequence_val _ _ _ _ _ (hg _ hE) (Hgu.out _ hE) hs).mono ?_; rintro e w' ⟨rfl, hE'⟩; replace hE := hE.trans hE'; clear hE') | (go_at_call 195; refine (ZeroOfLength_seq _ _ _ _ _ _ (hg _ hE) (Hgu.out _ hE) hs hk1 hlt).mono ?_; rw [hz]; rintro e w' ⟨p, rfl, hO, hE'⟩; replace hE := hE.trans hE'; clear hE'))
        go_roundw
        case rel => exact ⟨k + 1, by omega, by omega, by go_num, fun j h1 hj => by by_cases e : j = k; (subst e; exact Hz.out); exact Hno.out j h1 (by omega), hE⟩
        case measure => (simp [intOf]; omega)
      · have Hz := Lib.hid (Hat.out k hk1 Hno.out hz)
        go_wp2_with (first | (go_at_call 111; refine (IsSequence_val _ _ _ _ _ (hg _ hE) (Hgu.out _ hE) hs).mono ?_; rintro e w' ⟨rfl, hE'⟩; replace hE := hE.trans hE'; clear hE') | (go_at_call 195; refine (ZeroOfLength_seq _ _ _ _ _ _ (hg _ hE) (Hgu.out _ hE) hs hk1 hlt).mono ?_; rw [hz]; rintro e w' ⟨p, rfl, hO, hE'⟩; replace hO := hO.mono hE; replace hE := hE.trans hE'; clear hE'))
        exact bodyPost_ret (v := .tuple #[p, .bool true]) (by simp [results, Try.results113, go_sem]) rfl ⟨_, by rw [Hz.out.2], by rw [Hz.out.1]; exact hO.mono hE0, hE0.trans hE⟩
    · have Hz := Lib.hid (Hnone.out fun j h1 hj => Hno.out j h1 (by omega))
      have hO : Own 3 wr (wr.alloc (.cells #[] 3)) (.slice (some ⟨wr.heap.size, 0, none⟩) 0 0) (castL []) := own_made (TI := 3) (n := 0) (by omega) (Ext.refl wr) [] rfl
      go_wp2_with fail
      exact bodyPost_ret (v := .tuple #[.slice (some ⟨wr.heap.size, 0, none⟩) 0 0, .bool false]) (by simp [results, Try.results113, go_sem]) rfl ⟨_, by rw [Hz.out.2], by rw [Hz.out.1]; exact hO.mono (hE0.trans hE), hE0.trans (hE.alloc _)⟩
theorem sShortestZero_seq (v u : Value) (l : List Int) (X : List Nat) (w : World) (h : Ints w v l) (hu : Ints w u (castL X)) (hs : seqB l (castL X) = true) :
    Calls Try.prog 110 #[.agg #[v], u] w fun e w' => ∃ p, e = .returned (.tuple #[p, .bool (szB l X)]) ∧ Own 3 w w' p (castL (szR l X)) ∧ Ext w w' := by
  obtain ⟨wb, hwb⟩ : ∃ wb, wb = w.alloc (.cells #[v] 28) := ⟨_, rfl⟩
  have hE0 := (Ext.refl w).alloc (.cells #[v] 28)
  have hb := box_cell w v 28
  rw [← hwb] at hE0 hb
  have hg : ∀ W, Ext wb W → Ints W v l := fun W hW => h.ext (hE0.trans hW)
  have hE := Ext.refl wb
  have Hsz : Hid (w.heap.size + 1 = wb.heap.size) := Lib.hid (by rw [hwb]; simp [go_sem])
  have Hwb := Lib.hid hwb
  clear hwb h
  obtain ⟨h12, hgr, hall⟩ := seqB_natX hs
  have Hall := Lib.hid hall
  have Hgr := Lib.hid hgr
  have hp := pw_len h12
  have hp1 := pw_pos X.length
  have hs1 := ishl_one (n := X.length) (by omega)
  have Hgu : Hid (∀ W, Ext wb W → Ints W u (castL X)) := Lib.hid fun W hW => hu.ext (hE0.trans hW)
  obtain ⟨ao, c, adr, rfl, hadr, hcell⟩ := hu.nats
  have Hone := Lib.hid (szTo_one l X)
  have Hspec := Lib.hid (szTo_spec l X)
  have Hyes := Lib.hid (fun (c : Nat) a b d => szTo_yes (l := l) (X := X) (c := c) a b d)
  have Hno := Lib.hid (fun (c : Nat) a => szTo_no (l := l) (X := X) (c := c) a)
  have Hlen := Lib.hid (fun (b : Nat) a => szL'_len h12 (b := b) a)
  have Hpl := Lib.hid (fun (b : Nat) a => partL_len (X := X) (by omega) (m := b) a)
  have hO : Own 3 wb (wb.alloc (.cells #[] 3)) (.slice (some ⟨wb.heap.size, 0, none⟩) 0 0) (castL (szL' X (szTo l X 1))) := by
    rw [Hone.out]; exact own_made (TI := 3) (n := 0) (by omega) (Ext.refl wb) [] rfl
  have hEl := hE.alloc (.cells #[] 3)
  clear hall hgr hadr hcell hu
  go_enter Try.func110, Try.ntmps110
  go_wp2_with fail
  rw [← Hwb.out]; rw [Hsz.out]
  go_loopw [6, 7] (fun p i wr => ∃ c : Nat, 1 ≤ c ∧ c ≤ pw X.length ∧ i = .int .i64 c ∧ Own 3 wb wr p (castL (szL' X (szTo l X c))) ∧ Ext wb wr) (fun _ i _ => pw X.length - (intOf i).toNat)
  case atStart => exact ⟨1, by omega, by omega, rfl, hO, hEl⟩
  case round =>
    clear hE hEl hO
    obtain ⟨c', hc1, hc2, rfl, hO, hE⟩ := hrel
    obtain ⟨c0, HB⟩ : ∃ B, Hid (B = szTo l X c') := ⟨_, Lib.hid rfl⟩
    rw [← HB.out] at hO
    have HBl : Hid (c0 < pw X.length) := Lib.hid (by
      rcases Hspec.out c' with ⟨h, _⟩ | ⟨_, h, _⟩
      · rw [HB.out, h]; omega
      · rw [HB.out]; omega)
    obtain ⟨n2, Hl2⟩ : ∃ n2, Hid (n2 = (szL' X c0).length) := ⟨_, Lib.hid rfl⟩
    obtain ⟨ao2, c2, e2⟩ := hO.nshape
    rw [← Hl2.out] at e2
    subst e2
    have HL2 : Hid (n2 = cnt c0) := Lib.hid (by rw [Hl2.out]; exact Hlen.out c0 (by have := HBl.out; unfold pw at this; exact this))
    have hn24 : n2 ≤ 24 := by rw [HL2.out]; exact cnt_le _
    by_cases hlt : c' < pw X.length
    · have hc24 : c' < 2 ^ 24 := by omega
      obtain ⟨n1, Hl1⟩ : ∃ n1, Hid (n1 = (partL X c').length) := ⟨_, Lib.hid rfl⟩
      have HL1 : Hid (n1 = cnt c') := Lib.hid (by rw [Hl1.out]; exact Hpl.out c' (by unfold pw at hlt; exact hlt))
      have hn1 : n1 ≤ 24 := by rw [HL1.out]; exact cnt_le _
      have H0 : Hid (cnt c0 = 0 ↔ c0 = 0) := Lib.hid ⟨fun e => by
        by_cases h : c0 = 0
        · exact h
        · have := cnt_pos (a := c0) (by omega) (by have := HBl.out; omega); omega, fun e => by rw [e]; exact cnt_zero⟩
      by_cases ht : tot l (partL X c') = 0
      · have hq : ((tot l (partL X c') : Int) == 0) = true := by rw [ht]; simp
        have Ht := Lib.hid ht
        clear ht
        by_cases h0 : n2 = 0
        · have Hn : Hid (szTo l X (c' + 1) = c') := Lib.hid (Hyes.out c' (by omega) Ht.out (Or.inl (by rw [← HB.out]; exact H0.out.1 (by rw [← HL2.out]; exact h0))))
          have hz : ((n2 : Int) == 0) = true := by rw [h0]; rfl
          clear h0
          go_wp2_with (first | (go_at_call 109; refine (sIsSequence_val _ _ _ _ _ (hg _ hE) (Hgu.out _ hE) hs).mono ?_; rintro e w' ⟨rfl, hE'⟩; replace hO := hO.ext hE'; replace hE := hE.trans hE'; clear hE') | (go_at_call 192; refine (l16Part_any _ _ _ _ (Hgu.out _ hE) hc24 (by omega)).mono ?_; rintro e w1 ⟨x1, rfl, hO1, hE1⟩; obtain ⟨ao1, c1, e1⟩ := hO1.nshape; rw [← Hl1.out] at e1; subst e1; replace hO1 := hO1.mono hE; replace hO := hO.ext hE1; replace hE := hE.trans hE1; clear hE1) | (go_at_call 193; refine (l16Sum_any _ _ _ _ _ (hg _ hE) hO1.ints Hgr (Lib.hid fun x hx => Hall.out x (partL_mem hx))).mono ?_; rintro e w' ⟨rfl, hE'⟩; replace hO := hO.ext hE'; replace hO1 := hO1.ext hE'; replace hE := hE.trans hE'; clear hE'))
          go_roundw
          case rel => exact ⟨c' + 1, by omega, by omega, by go_num, by rw [Hn.out]; unfold szL'; rw [if_neg (by omega)]; exact hO1, hE⟩
          case measure => (simp [intOf]; omega)
        · have hz : ((n2 : Int) == 0) = false := by simp; omega
          by_cases h3 : n1 < n2
          · have Hn : Hid (szTo l X (c' + 1) = c') := Lib.hid (Hyes.out c' (by omega) Ht.out (Or.inr (by rw [← HB.out, ← HL1.out, ← HL2.out]; exact h3)))
            clear h0
            go_wp2_with (first | (go_at_call 109; refine (sIsSequence_val _ _ _ _ _ (hg _ hE) (Hgu.out _ hE) hs).mono ?_; rintro e w' ⟨rfl, hE'⟩; replace hO := hO.ext hE'; replace hE := hE.trans hE'; clear hE') | (go_at_call 192; refine (l16Part_any _ _ _ _ (Hgu.out _ hE) hc24 (by omega)).mono ?_; rintro e w1 ⟨x1, rfl, hO1, hE1⟩; obtain ⟨ao1, c1, e1⟩ := hO1.nshape; rw [← Hl1.out] at e1; subst e1; replace hO1 := hO1.mono hE; replace hO := hO.ext hE1; replace hE := hE.trans hE1; clear hE1) | (go_at_call 193; refine (l16Sum_any _ _ _ _ _ (hg _ hE) hO1.ints Hgr (Lib.hid fun x hx => Hall.out x (partL_mem hx))).mono ?_; rintro e w' ⟨rfl, hE'⟩; replace hO := hO.ext hE'; replace hO1 := hO1.ext hE'; replace hE := hE.trans hE'; clear hE'))
            go_roundw
            case rel => exact ⟨c' + 1, by omega, by omega, by go_num, by rw [Hn.out]; unfold szL'; rw [if_neg (by omega)]; exact hO1, hE⟩
            case measure => (simp [intOf]; omega)
          · have Hn : Hid (szTo l X (c' + 1) = c0) := Lib.hid ((Hno.out c' (by
              rintro ⟨_, e | e⟩
              · exact h0 (by rw [HL2.out]; exact H0.out.2 (by rw [HB.out]; exact e))
              · rw [← HB.out, ← HL1.out, ← HL2.out] at e; exact h3 e)).trans HB.out.symm)
            clear h0
            go_wp2_with (first | (go_at_call 109; refine (sIsSequence_val _ _ _ _ _ (hg _ hE) (Hgu.out _ hE) hs).mono ?_; rintro e w' ⟨rfl, hE'⟩; replace hO := hO.ext hE'; replace hE := hE.trans hE'; clear hE') | (go_at_call 192; refine (l16Part_any _ _ _ _ (Hgu.out _ hE) hc24 (by omega)).mono ?_; rintro e w1 ⟨x1, rfl, hO1, hE1⟩; obtain ⟨ao1, c1, e1⟩ := hO1.nshape; rw [← Hl1.out] at e1; subst e1; replace hO1 := hO1.mono hE; replace hO := hO.ext hE1; replace hE := hE.trans hE1; clear hE1) | (go_at_call 193; refine (l16Sum_any _ _ _ _ _ (hg _ hE) hO1.ints Hgr (Lib.hid fun x hx => Hall.out x (partL_mem hx))).mono ?_; rintro e w' ⟨rfl, hE'⟩; replace hO := hO.ext hE'; replace hO1 := hO1.ext hE'; replace hE := hE.trans hE'; clear hE'))
            go_roundw
            case rel => exact ⟨c' + 1, by omega, by omega, by go_num, by rw [Hn.out]; exact hO, hE⟩
            case measure => (simp [intOf]; omega)
      · have hq : ((tot l (partL X c') : Int) == 0) = false := by simp; omega
        have Hn : Hid (szTo l X (c' + 1) = c0) := Lib.hid ((Hno.out c' (fun e => ht e.1)).trans HB.out.symm)
        clear ht
        go_wp2_with (first | (go_at_call 109; refine (sIsSequence_val _ _ _ _ _ (hg _ hE) (Hgu.out _ hE) hs).mono ?_; rintro e w' ⟨rfl, hE'⟩; replace hO := hO.ext hE'; replace hE := hE.trans hE'; clear hE') | (go_at_call 192; refine (l16Part_any _ _ _ _ (Hgu.out _ hE) hc24 (by omega)).mono ?_; rintro e w1 ⟨x1, rfl, hO1, hE1⟩; obtain ⟨ao1, c1, e1⟩ := hO1.nshape; rw [← Hl1.out] at e1; subst e1; replace hO1 := hO1.mono hE; replace hO := hO.ext hE1; replace hE := hE.trans hE1; clear hE1) | (go_at_call 193; refine (l16Sum_any _ _ _ _ _ (hg _ hE) hO1.ints Hgr (Lib.hid fun x hx => Hall.out x (partL_mem hx))).mono ?_; rintro e w' ⟨rfl, hE'⟩; replace hO := hO.ext hE'; replace hO1 := hO1.ext hE'; replace hE := hE.trans hE'; clear hE'))
        go_roundw
        case rel => exact ⟨c' + 1, by omega, by omega, by go_num, by rw [Hn.out]; exact hO, hE⟩
        case measure => (simp [intOf]; omega)
    · have hcl : c' = pw X.length := by omega
      have HcB : Hid (c0 = szN l X) := Lib.hid (by rw [HB.out, hcl]; rfl)
      have Hz : Hid (decide ((0 : Int) < (n2 : Int)) = szB l X) := Lib.hid (by
        unfold szB
        rw [← HcB.out, HL2.out]
        by_cases h : c0 = 0
        · rw [h, cnt_zero]; rfl
        · have := cnt_pos (a := c0) (by omega) (by have := HBl.out; omega)
          rw [decide_eq_true (show (0 : Int) < (cnt c0 : Int) by omega), decide_eq_true h])
      clear hcl
      go_wp2_with fail
      exact bodyPost_ret (v := .tuple #[.slice ao2 n2 c2, .bool (szB l X)]) (by simp [results, Try.results110, go_sem, ← Hz.out]) rfl ⟨_, rfl, by unfold szR; rw [← HcB.out]; exact hO.mono hE0, hE0.trans hE⟩
end Go.Zz
