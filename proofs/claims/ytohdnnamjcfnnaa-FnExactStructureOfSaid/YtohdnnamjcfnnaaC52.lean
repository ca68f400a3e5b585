/- Sets of Sidon. -/
import Derived.Test.YtohdnnamjcfnnaaC51
namespace Go.Zz
open Go.RowKit Go.Proofs
set_option maxHeartbeats 2000000
set_option maxRecDepth 20000

theorem Ints.natc {w : World} {v : Value} {L : List Nat} (h : Ints w v (castL L)) :
    ∃ (ao : Option Addr) (c : Nat) (adr : Nat → Addr), v = .slice ao L.length c ∧ L.length ≤ c ∧
      (∀ i, i < L.length → ao = some (adr 0) ∧ adr i = (adr 0).add i) ∧
      (∀ i W, i < L.length → Ext w W → W.cell? (adr i) = some (.int .i64 (nthN L i : Int))) := by
  have hc : ∀ ao n c, v = .slice ao n c → n ≤ c := by
    obtain ⟨ao, c, rfl, h1, _⟩ := h
    intro ao' n' c' e
    simp only [Value.slice.injEq] at e
    omega
  obtain ⟨ao, c, adr, rfl, h2, h3⟩ := h.nats
  exact ⟨ao, c, adr, rfl, hc _ _ _ rfl, h2, h3⟩
theorem Addr.add_add' (a : Addr) (i j : Nat) : (a.add i).add j = a.add (i + j) := by
  unfold Addr.add
  by_cases hi : i = 0 <;> by_cases hj : j = 0 <;> simp [hi, hj, Nat.add_assoc]
theorem IsSidon_any (v : Value) (l : List Int) (a : Int) (w : World) (h : Ints w v l) :
    Calls Try.prog 177 #[.agg #[v], .int .i64 a] w fun e w' => e = .returned (.bool (sidB l a)) ∧ Ext w w' := by
  obtain ⟨wb, hwb⟩ : ∃ wb, wb = w.alloc (.cells #[v] 28) := ⟨_, rfl⟩
  have hE0 := (Ext.refl w).alloc (.cells #[v] 28)
  have hb := box_cell w v 28
  rw [← hwb] at hE0 hb
  have hg : ∀ W, Ext wb W → Ints W v l := fun W hW => h.ext (hE0.trans hW)
  have hE := Ext.refl wb
  have Hsz : Hid (w.heap.size + 1 = wb.heap.size) := Lib.hid (by rw [hwb]; simp [go_sem])
  have Hwb := Lib.hid hwb
  clear hwb h
  have hbx := hb wb hE
  cases hs : isSetB l a
  · have Hs := Lib.hid (sidB_no hs)
    go_enter Try.func177, Try.ntmps177
    go_wp2_with fail
    rw [← Hwb.out]
    go_wp2_with (first | (go_at_call 157; refine (IsSet_val _ _ _ _ (hg _ hE) (hs)).mono ?_; rintro e w' ⟨rfl, hE'⟩; replace hE := hE.trans hE'; clear hE'))
    go_ret
    exact ⟨ret_bool Hs.out.symm, hE0.trans hE⟩
  · obtain ⟨n, rfl, h1, h2, hgr⟩ := isSetB_nat hs
    have Hs := Lib.hid (sidB_yes hs)
    have Hgr := Lib.hid hgr
    clear hgr
    go_enter Try.func177, Try.ntmps177
    go_wp2_with fail
    rw [← Hwb.out]
    go_wp2_with (first | (go_at_call 157; refine (IsSet_val _ _ _ _ (hg _ hE) (hs)).mono ?_; rintro e w' ⟨rfl, hE'⟩; replace hE := hE.trans hE'; clear hE') | (go_at_call 191; refine (members_any n h2 _).mono ?_; rintro e w1 ⟨v1, rfl, hL, hE1⟩; obtain ⟨aoL, cL, adrL, rfl, hcap, hadrL, hcellL⟩ := hL.ints.natc; have hixL := ints_index (c := cL) elI szI hadrL))
    have hb1 : ∀ W, Ext w1 W → W.cell? ⟨w.heap.size, 0, none⟩ = some v := fun W hW => hb W (hE.trans (hE1.trans hW))
    have hg1 : ∀ W, Ext w1 W → Ints W v l := fun W hW => hg W (hE.trans (hE1.trans hW))
    have eW := hE0.trans (hE.trans hE1)
    have hall : ∀ y ∈ elems n, y < 24 := fun y hy => elems_lt hy
    have hlen := elems_len n
    clear hb hg hbx hE hE1 hL hs
    generalize elems n = L at hcellL hixL hall hlen Hs hcap hadrL ⊢
    have Hadr := Lib.hid hadrL
    clear hadrL
    have hE := Ext.refl w1
    have Hst := Lib.hid (SidTo.start l L)
    go_loopw [20, 5] (fun i s wr => ∃ k seen : Nat, k ≤ L.length ∧ seen < 2 ^ 24 ∧ i = .int .i64 k ∧ s = .int .i64 seen ∧ SidTo l L k k seen ∧ Ext w1 wr) (fun i _ _ => L.length - (intOf i).toNat)
    case atStart => exact ⟨0, 0, by omega, by omega, rfl, rfl, Hst.out, hE⟩
    case round =>
      clear hE Hst
      obtain ⟨k, seen, hk, hseen, rfl, rfl, hS, hE⟩ := hrel
      have HS := Lib.hid hS
      clear hS
      by_cases hlt : k < L.length
      · have hck := hcellL k _ hlt hE
        obtain ⟨M, hM⟩ : ∃ M, M = L.length - k := ⟨_, rfl⟩
        have HM : Hid (k + M = L.length) := Lib.hid (by omega)
        have hsub : L.length - k = M := hM.symm
        obtain ⟨rfl, -⟩ := Hadr.out k hlt
        have hak : (adrL 0).add k = adrL k := (Hadr.out k hlt).2.symm
        have hne : ¬ cL = k := by omega
        have hixk := ints_index (P := Try.prog) (t := 22) (ao := some (adrL k)) (n := M) (c := cL - k) (adr := fun t => adrL (k + t)) elI szI (fun t ht => ⟨rfl, by
          have q := HM.out
          show adrL (k + t) = (adrL (k + 0)).add t
          rw [(Hadr.out (k + t) (by omega)).2, Nat.add_zero, (Hadr.out k hlt).2, Addr.add_add']⟩)
        clear hM
        go_wp2_with fail
        clear hsub hak hne
        have hk24 := hall _ (nthN_mem hlt)
        go_loopw [29, 5] (fun i s wq => ∃ t sn : Nat, t ≤ M ∧ sn < 2 ^ 24 ∧ i = .int .i64 t ∧ s = .int .i64 sn ∧ SidTo l L k (k + t) sn ∧ Ext w1 wq) (fun i _ _ => M - (intOf i).toNat)
        case atStart => exact ⟨0, seen, by omega, hseen, rfl, rfl, HS.out, hE⟩
        case round =>
          clear hE HS hseen hck
          obtain ⟨t, sn, ht, hseen, rfl, rfl, hS, hE⟩ := hrel
          have HS := Lib.hid hS
          clear hS
          have hbx := hb1 _ hE
          by_cases hlt2 : t < M
          · have hkt : k + t < L.length := by have := HM.out; omega
            have hct := hcellL (k + t) _ hkt hE
            have hy24 := hall _ (nthN_mem hkt)
            obtain ⟨s, hs⟩ : ∃ s, s = addF l (nthN L k) (nthN L (k + t)) := ⟨_, rfl⟩
            have hs24 : s < 24 := by rw [hs]; exact addF_bd Hgr.out _ _
            have Hsd := Lib.hid hs
            clear hs
            have hs1 := ishl_one (n := s) (by omega)
            have hs2 := ior_pw hseen hs24
            cases hb : sn.testBit s
            · have Hn := Lib.hid (HS.out.next (Nat.le_add_right k t) hkt (by rw [← Hsd.out]; exact hb))
              go_wp2_with (first | (go_at_call 217; refine (add_any _ _ _ _ _ (hg1 _ hE) Hgr (by omega) (by omega)).mono ?_; rw [← Hsd.out]; rintro e w' ⟨rfl, hE'⟩; replace hE := hE.trans hE'; clear hE') | (go_at_call 99; refine (in_val sn s hseen (by omega) _ hb).mono ?_; rintro e w' ⟨rfl, rfl⟩))
              go_roundw
              case rel => exact ⟨t + 1, sn ||| 2 ^ s, by omega, Nat.or_lt_two_pow hseen (Nat.pow_lt_pow_right (by omega) hs24), by go_num, rfl, by rw [Hsd.out]; exact Hn.out, hE⟩
              case measure => (simp [intOf]; omega)
            · have Hz := Lib.hid (sidL_f (HS.out.hit (Nat.le_add_right k t) hkt (by rw [← Hsd.out]; exact hb)))
              go_wp2_with (first | (go_at_call 217; refine (add_any _ _ _ _ _ (hg1 _ hE) Hgr (by omega) (by omega)).mono ?_; rw [← Hsd.out]; rintro e w' ⟨rfl, hE'⟩; replace hE := hE.trans hE'; clear hE') | (go_at_call 99; refine (in_val sn s hseen (by omega) _ hb).mono ?_; rintro e w' ⟨rfl, rfl⟩))
              go_ret
              exact ⟨ret_bool (by rw [Hs.out, Hz.out]), eW.trans hE⟩
          · have htM : k + t = L.length := by have := HM.out; omega
            have Hn := Lib.hid (HS.out.row htM)
            go_wp2_with fail
            go_roundw
            case rel => exact ⟨k + 1, sn, by omega, hseen, by go_num, rfl, Hn.out, hE⟩
            case measure => (simp [intOf]; omega)
      · have hkl : k = L.length := by omega
        subst hkl
        have Hz := Lib.hid (sidL_t (HS.out.all rfl))
        go_wp2_with fail
        go_ret
        exact ⟨ret_bool (by rw [Hs.out, Hz.out]), eW.trans hE⟩
theorem IsSidon_val (v : Value) (l : List Int) (a : Int) (w : World) (h : Ints w v l) {c : Bool} (hc : sidB l a = c) :
    Calls Try.prog 177 #[.agg #[v], .int .i64 a] w fun e w' => e = .returned (.bool c) ∧ Ext w w' := by subst hc; exact IsSidon_any v l a w h
def Col (l : List Int) (L : List Nat) (i j k m : Nat) : Prop := ¬ (k = i ∧ m = j) ∧ addF l (nthN L i) (nthN L j) = addF l (nthN L k) (nthN L m)
theorem sid_of {l : List Int} {L : List Nat} (h : ∀ i j k m, i < L.length → i ≤ j → j < L.length → k ≤ i → k ≤ m → m < L.length → ¬ Col l L i j k m) : Sid l L := by
  intro p q r t h1 h2 h3 h4 e
  rcases Nat.le_total r p with c | c
  · have := h p q r t (by omega) h1 h2 c h3 h4
    by_cases d : r = p ∧ t = q
    · exact ⟨d.1.symm, d.2.symm⟩
    · exact absurd ⟨d, e⟩ this
  · have := h r t p q (by omega) h3 h4 c h1 h2
    by_cases d : p = r ∧ q = t
    · exact d
    · exact absurd ⟨d, e.symm⟩ this
theorem sid_hit {l : List Int} {L : List Nat} {i j k m : Nat} (h1 : i ≤ j) (h2 : j < L.length) (h3 : k ≤ m) (h4 : m < L.length) (h : Col l L i j k m) : ¬ Sid l L := fun hS => by
  obtain ⟨e1, e2⟩ := hS i j k m h1 h2 h3 h4 h.2
  exact h.1 ⟨e1.symm, e2.symm⟩
theorem l22Sidon_any (v : Value) (l : List Int) (a : Nat) (w : World) (h : Ints w v l) (Hgr : Hid (isGrp l = true)) (h2 : a < 2 ^ 24) :
    Calls Try.prog 226 #[.agg #[v], .int .i64 a] w fun e w' => e = .returned (.bool (sidL l (elems a))) ∧ Ext w w' := by
  obtain ⟨wb, hwb⟩ : ∃ wb, wb = w.alloc (.cells #[v] 28) := ⟨_, rfl⟩
  have hE0 := (Ext.refl w).alloc (.cells #[v] 28)
  have hb := box_cell w v 28
  rw [← hwb] at hE0 hb
  have hg : ∀ W, Ext wb W → Ints W v l := fun W hW => h.ext (hE0.trans hW)
  have hE := Ext.refl wb
  have Hsz : Hid (w.heap.size + 1 = wb.heap.size) := Lib.hid (by rw [hwb]; simp [go_sem])
  have Hwb := Lib.hid hwb
  clear hwb h
  go_enter Try.func226, Try.ntmps226
  go_wp2_with fail
  rw [← Hwb.out]
  refine (l3List_any a h2 _).mono ?_
  rintro e w1 ⟨v1, rfl, hL, hE1⟩
  obtain ⟨aoL, cL, adrL, rfl, hadrL, hcellL⟩ := hL.ints.nats
  have hixL := ints_index (c := cL) elI szI hadrL
  have hb1 : ∀ W, Ext w1 W → W.cell? ⟨w.heap.size, 0, none⟩ = some v := fun W hW => hb W (hE1.trans hW)
  have hg1 : ∀ W, Ext w1 W → Ints W v l := fun W hW => hg W (hE1.trans hW)
  have eW := hE0.trans hE1
  have hall : ∀ y ∈ elems a, y < 24 := fun y hy => elems_lt hy
  have hlen := elems_len a
  clear hb hg hE hE1 hL hadrL
  obtain ⟨R, HR1⟩ : ∃ R, Hid (R = sidL l (elems a)) := ⟨_, Lib.hid rfl⟩
  have HR2 := HR1
  generalize elems a = L at hcellL hixL hall hlen HR2 ⊢
  have hE := Ext.refl w1
  go_wp2_with fail
  go_loopw [6] (fun s wr => ∃ i : Nat, i ≤ L.length ∧ s = .int .i64 i ∧ (∀ i' j k m, i' < i → i' ≤ j → j < L.length → k ≤ i' → k ≤ m → m < L.length → ¬ Col l L i' j k m) ∧ Ext w1 wr) (fun s _ => L.length - (intOf s).toNat)
  case atStart => exact ⟨0, by omega, rfl, by omega, hE⟩
  case round =>
    clear hE
    obtain ⟨i, hi, rfl, hno, hE⟩ := hrel
    have Hno1 := Lib.hid hno
    clear hno
    by_cases hlt : i < L.length
    · go_wp2_with fail
      go_loopw [7] (fun s wr => ∃ j : Nat, i ≤ j ∧ j ≤ L.length ∧ s = .int .i64 j ∧ (∀ j' k m, i ≤ j' → j' < j → k ≤ i → k ≤ m → m < L.length → ¬ Col l L i j' k m) ∧ Ext w1 wr) (fun s _ => L.length - (intOf s).toNat)
      case atStart => exact ⟨i, by omega, by omega, rfl, by omega, hE⟩
      case round =>
        clear hE
        obtain ⟨j, hij, hj, rfl, hno, hE⟩ := hrel
        have Hno2 := Lib.hid hno
        clear hno
        by_cases hltj : j < L.length
        · go_wp2_with fail
          go_loopw [8] (fun s wr => ∃ k : Nat, k ≤ i + 1 ∧ s = .int .i64 k ∧ (∀ k' m, k' < k → k' ≤ m → m < L.length → ¬ Col l L i j k' m) ∧ Ext w1 wr) (fun s _ => i + 1 - (intOf s).toNat)
          case atStart => exact ⟨0, by omega, rfl, by omega, hE⟩
          case round =>
            clear hE
            obtain ⟨k, hk, rfl, hno, hE⟩ := hrel
            have Hno3 := Lib.hid hno
            clear hno
            by_cases hltk : k ≤ i
            · go_wp2_with fail
              go_loopw [9] (fun s wr => ∃ m : Nat, k ≤ m ∧ m ≤ L.length ∧ s = .int .i64 m ∧ (∀ m', k ≤ m' → m' < m → ¬ Col l L i j k m') ∧ Ext w1 wr) (fun s _ => L.length - (intOf s).toNat)
              case atStart => exact ⟨k, by omega, by omega, rfl, by omega, hE⟩
              case round =>
                clear hE
                obtain ⟨m, hkm, hm, rfl, hno, hE⟩ := hrel
                have Hno4 := Lib.hid hno
                clear hno
                by_cases hltm : m < L.length
                · have hci := fun U => hcellL i _ hlt (hE.trans (lat_ext wr U))
                  have hcj := fun U => hcellL j _ hltj (hE.trans (lat_ext wr U))
                  have hkl : k < L.length := by omega
                  have hck := fun U => hcellL k _ hkl (hE.trans (lat_ext wr U))
                  have hcm := fun U => hcellL m _ hltm (hE.trans (lat_ext wr U))
                  have hbu := fun U => hb1 _ (hE.trans (lat_ext wr U))
                  have hgr' : ∀ W, Ext wr W → Ints W v l := fun W hW => hg1 W (hE.trans hW)
                  have q1 := hall _ (nthN_mem hlt)
                  have q2 := hall _ (nthN_mem hltj)
                  have q3 := hall _ (nthN_mem hkl)
                  have q4 := hall _ (nthN_mem hltm)
                  have hE4 := hE
                  clear hE
                  have hE := Ext.refl wr
                  by_cases hp : k = i ∧ m = j
                  · have Hc : Hid (¬ Col l L i j k m) := Lib.hid (fun c => c.1 hp)
                    have b1 : ((k : Int) != (i : Int)) = false := by simp; omega
                    have b2 : ((m : Int) != (j : Int)) = false := by simp; omega
                    clear hp
                    go_wp2_with fail
                    (refine wp_region_lat (wr) (by kernel_rfl) (by kernel_rfl) hE ?_); (repeat (go_big_quiet_step (first | (go_at_call 187; exact Calls.lat (l2Add_any _ _ _ _ _ (hgr' _ (lat_ext wr _)) (Hgr) ((by omega)) ((by omega))))))); (refine wpQuiet_nil ?_); (intro W hE'); (replace hE := lat_of hE'); (clear hE')
                    go_wp2_with fail
                    go_roundw
                    case rel => exact ⟨m + 1, by omega, by omega, by go_num, fun m' h1 h2 => by by_cases e : m' = m; (subst e; exact Hc.out); exact Hno4.out m' h1 (by omega), hE4.trans hE⟩
                    case measure => (simp [intOf]; omega)
                  · by_cases hs : addF l (nthN L i) (nthN L j) = addF l (nthN L k) (nthN L m)
                    · have Hz := Lib.hid (sidL_f (sid_hit hij hltj hkm hltm ⟨hp, hs⟩))
                      have b3 : ((addF l (nthN L i) (nthN L j) : Int) == (addF l (nthN L k) (nthN L m) : Int)) = true := by rw [hs]; simp
                      by_cases hki : k = i
                      · have b1 : ((k : Int) != (i : Int)) = false := by simp; omega
                        have b2 : ((m : Int) != (j : Int)) = true := by simp; omega
                        clear hp hs hki
                        go_wp2_with fail
                        (refine wp_region_lat (wr) (by kernel_rfl) (by kernel_rfl) hE ?_); (repeat (go_big_quiet_step (first | (go_at_call 187; exact Calls.lat (l2Add_any _ _ _ _ _ (hgr' _ (lat_ext wr _)) (Hgr) ((by omega)) ((by omega))))))); (refine wpQuiet_nil ?_); (intro W hE'); (replace hE := lat_of hE'); (clear hE')
                        go_wp2_with fail
                        go_ret
                        exact ⟨ret_bool (by rw [← HR1.out, HR2.out, Hz.out]), eW.trans (hE4.trans hE)⟩
                      · have b1 : ((k : Int) != (i : Int)) = true := by simp; omega
                        clear hp hs hki
                        go_wp2_with fail
                        (refine wp_region_lat (wr) (by kernel_rfl) (by kernel_rfl) hE ?_); (repeat (go_big_quiet_step (first | (go_at_call 187; exact Calls.lat (l2Add_any _ _ _ _ _ (hgr' _ (lat_ext wr _)) (Hgr) ((by omega)) ((by omega))))))); (refine wpQuiet_nil ?_); (intro W hE'); (replace hE := lat_of hE'); (clear hE')
                        go_wp2_with fail
                        go_ret
                        exact ⟨ret_bool (by rw [← HR1.out, HR2.out, Hz.out]), eW.trans (hE4.trans hE)⟩
                    · have Hc : Hid (¬ Col l L i j k m) := Lib.hid (fun c => hs c.2)
                      have b3 : ((addF l (nthN L i) (nthN L j) : Int) == (addF l (nthN L k) (nthN L m) : Int)) = false := by simp; omega
                      by_cases hki : k = i
                      · have b1 : ((k : Int) != (i : Int)) = false := by simp; omega
                        have b2 : ((m : Int) != (j : Int)) = true := by simp; omega
                        clear hp hs hki
                        go_wp2_with fail
                        (refine wp_region_lat (wr) (by kernel_rfl) (by kernel_rfl) hE ?_); (repeat (go_big_quiet_step (first | (go_at_call 187; exact Calls.lat (l2Add_any _ _ _ _ _ (hgr' _ (lat_ext wr _)) (Hgr) ((by omega)) ((by omega))))))); (refine wpQuiet_nil ?_); (intro W hE'); (replace hE := lat_of hE'); (clear hE')
                        go_wp2_with fail
                        go_roundw
                        case rel => exact ⟨m + 1, by omega, by omega, by go_num, fun m' h1 h2 => by by_cases e : m' = m; (subst e; exact Hc.out); exact Hno4.out m' h1 (by omega), hE4.trans hE⟩
                        case measure => (simp [intOf]; omega)
                      · have b1 : ((k : Int) != (i : Int)) = true := by simp; omega
                        clear hp hs hki
                        go_wp2_with fail
                        (refine wp_region_lat (wr) (by kernel_rfl) (by kernel_rfl) hE ?_); (repeat (go_big_quiet_step (first | (go_at_call 187; exact Calls.lat (l2Add_any _ _ _ _ _ (hgr' _ (lat_ext wr _)) (Hgr) ((by omega)) ((by omega))))))); (refine wpQuiet_nil ?_); (intro W hE'); (replace hE := lat_of hE'); (clear hE')
                        go_wp2_with fail
                        go_roundw
                        case rel => exact ⟨m + 1, by omega, by omega, by go_num, fun m' h1 h2 => by by_cases e : m' = m; (subst e; exact Hc.out); exact Hno4.out m' h1 (by omega), hE4.trans hE⟩
                        case measure => (simp [intOf]; omega)
                · have hml : m = L.length := by omega
                  go_wp2_with fail
                  go_roundw
                  case rel => exact ⟨k + 1, by omega, by go_num, fun k' m' h1 h2 h3 => by by_cases e : k' = k; (subst e; exact Hno4.out m' h2 (by omega)); exact Hno3.out k' m' (by omega) h2 h3, hE⟩
                  case measure => (simp [intOf]; omega)
            · go_wp2_with fail
              go_roundw
              case rel => exact ⟨j + 1, by omega, by omega, by go_num, fun j' k' m' h1 h2 h3 h4 h5 => by by_cases e : j' = j; (subst e; exact Hno3.out k' m' (by omega) h4 h5); exact Hno2.out j' k' m' h1 (by omega) h3 h4 h5, hE⟩
              case measure => (simp [intOf]; omega)
        · go_wp2_with fail
          go_roundw
          case rel => exact ⟨i + 1, by omega, by go_num, fun i' j' k' m' h1 h2 h3 h4 h5 h6 => by by_cases e : i' = i; (subst e; exact Hno2.out j' k' m' h2 (by omega) h4 h5 h6); exact Hno1.out i' j' k' m' (by omega) h2 h3 h4 h5 h6, hE⟩
          case measure => (simp [intOf]; omega)
    · have hil : i = L.length := by omega
      have Hz := Lib.hid (sidL_t (sid_of (l := l) (L := L) fun i' j' k' m' h1 => Hno1.out i' j' k' m' (by omega)))
      go_wp2_with fail
      go_ret
      exact ⟨ret_bool (by rw [← HR1.out, HR2.out, Hz.out]), eW.trans hE⟩
theorem sIsSidon_any (v : Value) (l : List Int) (a : Int) (w : World) (h : Ints w v l) :
    Calls Try.prog 172 #[.agg #[v], .int .i64 a] w fun e w' => e = .returned (.bool (sidB l a)) ∧ Ext w w' := by
  obtain ⟨wb, hwb⟩ : ∃ wb, wb = w.alloc (.cells #[v] 28) := ⟨_, rfl⟩
  have hE0 := (Ext.refl w).alloc (.cells #[v] 28)
  have hb := box_cell w v 28
  rw [← hwb] at hE0 hb
  have hg : ∀ W, Ext wb W → Ints W v l := fun W hW => h.ext (hE0.trans hW)
  have hE := Ext.refl wb
  have Hsz : Hid (w.heap.size + 1 = wb.heap.size) := Lib.hid (by rw [hwb]; simp [go_sem])
  have Hwb := Lib.hid hwb
  clear hwb h
  have hbx := hb wb hE
  cases hs : isSetB l a
  · have Hs := Lib.hid (sidB_no hs)
    go_enter Try.func172, Try.ntmps172
    go_wp2_with fail
    rw [← Hwb.out]
    go_wp2_with (first | (go_at_call 162; refine (sIsSet_val _ _ _ _ (hg _ hE) (hs)).mono ?_; rintro e w' ⟨rfl, hE'⟩; replace hE := hE.trans hE'; clear hE'))
    go_ret
    exact ⟨ret_bool Hs.out.symm, hE0.trans hE⟩
  · obtain ⟨n, rfl, h1, h2, hgr⟩ := isSetB_nat hs
    have Hs := Lib.hid (sidB_yes hs)
    have Hgr := Lib.hid hgr
    clear hgr
    go_enter Try.func172, Try.ntmps172
    go_wp2_with fail
    rw [← Hwb.out]
    go_wp2_with (first | (go_at_call 162; refine (sIsSet_val _ _ _ _ (hg _ hE) (hs)).mono ?_; rintro e w' ⟨rfl, hE'⟩; replace hE := hE.trans hE'; clear hE') | (go_at_call 226; refine (l22Sidon_any _ _ _ _ (hg _ hE) Hgr h2).mono ?_; rintro e w' ⟨rfl, hE'⟩; replace hE := hE.trans hE'; clear hE'))
    go_ret
    exact ⟨ret_bool Hs.out.symm, hE0.trans hE⟩
theorem sIsSidon_val (v : Value) (l : List Int) (a : Int) (w : World) (h : Ints w v l) {c : Bool} (hc : sidB l a = c) :
    Calls Try.prog 172 #[.agg #[v], .int .i64 a] w fun e w' => e = .returned (.bool c) ∧ Ext w w' := by subst hc; exact sIsSidon_any v l a w h
end Go.Zz
