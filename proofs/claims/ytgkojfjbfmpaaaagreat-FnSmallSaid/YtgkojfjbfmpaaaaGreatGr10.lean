/- Sets of Sidon. -/
import Derived.Test.YtgkojfjbfmpaaaaGreatGr9
namespace Go.Zz
open Go.RowKit Go.Proofs
set_option maxHeartbeats 2000000
set_option maxRecDepth 20000

theorem Ints.natc {w : World} {v : Value} {L : List Nat} (h : Ints w v (castL L)) :
    ∃ (ao : Option Addr) (c : Nat) (adr : Nat → Addr), v = .slice ao L.length c ∧ L.length ≤ c ∧
      (∀ i, i < L.length → ao = some (adr 0) ∧ adr i = (adr 0).add i) ∧
      (∀ i W, i < L.length → Ext w W → W.cell? (adr i) = some (.int .i64 (nthN L i : Int))) := by
  have hc : ∀ ao n c, v = .slice ao n c → n ≤ c := by
    obtain ⟨ao, c, rfl, h1, _⟩ := h
    intro ao' n' c' e
    simp only [Value.slice.injEq] at e
    omega
  obtain ⟨ao, c, adr, rfl, h2, h3⟩ := h.nats
  exact ⟨ao, c, adr, rfl, hc _ _ _ rfl, h2, h3⟩
theorem Addr.add_add' (a : Addr) (i j : Nat) : (a.add i).add j = a.add (i + j) := by
  unfold Addr.add
  by_cases hi : i = 0 <;> by_cases hj : j = 0 <;> simp [hi, hj, Nat.add_assoc]
theorem IsSidon_any (v : Value) (l : List Int) (a : Int) (w : World) (h : Ints w v l) :
    Calls Tryz.prog 44 #[.agg #[v], .int .i64 a] w fun e w' => e = .returned (.bool (sidB l a)) ∧ Ext w w' := by
  obtain ⟨wb, hwb⟩ : ∃ wb, wb = w.alloc (.cells #[v] 26) := ⟨_, rfl⟩
  have hE0 := (Ext.refl w).alloc (.cells #[v] 26)
  have hb := box_cell w v 26
  rw [← hwb] at hE0 hb
  have hg : ∀ W, Ext wb W → Ints W v l := fun W hW => h.ext (hE0.trans hW)
  have hE := Ext.refl wb
  have Hsz : Hid (w.heap.size + 1 = wb.heap.size) := Lib.hid (by rw [hwb]; simp [go_sem])
  have Hwb := Lib.hid hwb
  clear hwb h
  have hbx := hb wb hE
  cases hs : isSetB l a
  · have Hs := Lib.hid (sidB_no hs)
    go_enter Tryz.func44, Tryz.ntmps44
    go_wp2_with fail
    rw [← Hwb.out]
    go_wp2_with (first | (go_at_call 32; refine (IsSet_val _ _ _ _ (hg _ hE) (hs)).mono ?_; rintro e w' ⟨rfl, hE'⟩; replace hE := hE.trans hE'; clear hE'))
    go_ret
    exact ⟨ret_bool Hs.out.symm, hE0.trans hE⟩
  · obtain ⟨n, rfl, h1, h2, hgr⟩ := isSetB_nat hs
    have Hs := Lib.hid (sidB_yes hs)
    have Hgr := Lib.hid hgr
    clear hgr
    go_enter Tryz.func44, Tryz.ntmps44
    go_wp2_with fail
    rw [← Hwb.out]
    go_wp2_with (first | (go_at_call 32; refine (IsSet_val _ _ _ _ (hg _ hE) (hs)).mono ?_; rintro e w' ⟨rfl, hE'⟩; replace hE := hE.trans hE'; clear hE') | (go_at_call 65; refine (members_any n h2 _).mono ?_; rintro e w1 ⟨v1, rfl, hL, hE1⟩; obtain ⟨aoL, cL, adrL, rfl, hcap, hadrL, hcellL⟩ := hL.ints.natc; have hixL := ints_index (c := cL) elI szI hadrL))
    have hb1 : ∀ W, Ext w1 W → W.cell? ⟨w.heap.size, 0, none⟩ = some v := fun W hW => hb W (hE.trans (hE1.trans hW))
    have hg1 : ∀ W, Ext w1 W → Ints W v l := fun W hW => hg W (hE.trans (hE1.trans hW))
    have eW := hE0.trans (hE.trans hE1)
    have hall : ∀ y ∈ elems n, y < 24 := fun y hy => elems_lt hy
    have hlen := elems_len n
    clear hb hg hbx hE hE1 hL hs
    generalize elems n = L at hcellL hixL hall hlen Hs hcap hadrL ⊢
    have Hadr := Lib.hid hadrL
    clear hadrL
    have hE := Ext.refl w1
    have Hst := Lib.hid (SidTo.start l L)
    go_loopw [20, 5] (fun i s wr => ∃ k seen : Nat, k ≤ L.length ∧ seen < 2 ^ 24 ∧ i = .int .i64 k ∧ s = .int .i64 seen ∧ SidTo l L k k seen ∧ Ext w1 wr) (fun i _ _ => L.length - (intOf i).toNat)
    case atStart => exact ⟨0, 0, by omega, by omega, rfl, rfl, Hst.out, hE⟩
    case round =>
      clear hE Hst
      obtain ⟨k, seen, hk, hseen, rfl, rfl, hS, hE⟩ := hrel
      have HS := Lib.hid hS
      clear hS
      by_cases hlt : k < L.length
      · have hck := hcellL k _ hlt hE
        obtain ⟨M, hM⟩ : ∃ M, M = L.length - k := ⟨_, rfl⟩
        have HM : Hid (k + M = L.length) := Lib.hid (by omega)
        have hsub : L.length - k = M := hM.symm
        obtain ⟨rfl, -⟩ := Hadr.out k hlt
        have hak : (adrL 0).add k = adrL k := (Hadr.out k hlt).2.symm
        have hne : ¬ cL = k := by omega
        have hixk := ints_index (P := Tryz.prog) (t := 24) (ao := some (adrL k)) (n := M) (c := cL - k) (adr := fun t => adrL (k + t)) elI szI (fun t ht => ⟨rfl, by
          have q := HM.out
          show adrL (k + t) = (adrL (k + 0)).add t
          rw [(Hadr.out (k + t) (by omega)).2, Nat.add_zero, (Hadr.out k hlt).2, Addr.add_add']⟩)
        clear hM
        go_wp2_with fail
        clear hsub hak hne
        have hk24 := hall _ (nthN_mem hlt)
        go_loopw [29, 5] (fun i s wq => ∃ t sn : Nat, t ≤ M ∧ sn < 2 ^ 24 ∧ i = .int .i64 t ∧ s = .int .i64 sn ∧ SidTo l L k (k + t) sn ∧ Ext w1 wq) (fun i _ _ => M - (intOf i).toNat)
        case atStart => exact ⟨0, seen, by omega, hseen, rfl, rfl, HS.out, hE⟩
        case round =>
          clear hE HS hseen hck
          obtain ⟨t, sn, ht, hseen, rfl, rfl, hS, hE⟩ := hrel
          have HS := Lib.hid hS
          clear hS
          have hbx := hb1 _ hE
          by_cases hlt2 : t < M
          · have hkt : k + t < L.length := by have := HM.out; omega
            have hct := hcellL (k + t) _ hkt hE
            have hy24 := hall _ (nthN_mem hkt)
            obtain ⟨s, hs⟩ : ∃ s, s = addF l (nthN L k) (nthN L (k + t)) := ⟨_, rfl⟩
            have hs24 : s < 24 := by rw [hs]; exact addF_bd Hgr.out _ _
            have Hsd := Lib.hid hs
            clear hs
            have hs1 := ishl_one (n := s) (by omega)
            have hs2 := ior_pw hseen hs24
            cases hb : sn.testBit s
            · have Hn := Lib.hid (HS.out.next (Nat.le_add_right k t) hkt (by rw [← Hsd.out]; exact hb))
              go_wp2_with (first | (go_at_call 82; refine (add_any _ _ _ _ _ (hg1 _ hE) Hgr (by omega) (by omega)).mono ?_; rw [← Hsd.out]; rintro e w' ⟨rfl, hE'⟩; replace hE := hE.trans hE'; clear hE') | (go_at_call 83; refine (in_val sn s hseen (by omega) _ hb).mono ?_; rintro e w' ⟨rfl, rfl⟩))
              go_roundw
              case rel => exact ⟨t + 1, sn ||| 2 ^ s, by omega, Nat.or_lt_two_pow hseen (Nat.pow_lt_pow_right (by omega) hs24), by go_num, rfl, by rw [Hsd.out]; exact Hn.out, hE⟩
              case measure => (simp [intOf]; omega)
            · have Hz := Lib.hid (sidL_f (HS.out.hit (Nat.le_add_right k t) hkt (by rw [← Hsd.out]; exact hb)))
              go_wp2_with (first | (go_at_call 82; refine (add_any _ _ _ _ _ (hg1 _ hE) Hgr (by omega) (by omega)).mono ?_; rw [← Hsd.out]; rintro e w' ⟨rfl, hE'⟩; replace hE := hE.trans hE'; clear hE') | (go_at_call 83; refine (in_val sn s hseen (by omega) _ hb).mono ?_; rintro e w' ⟨rfl, rfl⟩))
              go_ret
              exact ⟨ret_bool (by rw [Hs.out, Hz.out]), eW.trans hE⟩
          · have htM : k + t = L.length := by have := HM.out; omega
            have Hn := Lib.hid (HS.out.row htM)
            go_wp2_with fail
            go_roundw
            case rel => exact ⟨k + 1, sn, by omega, hseen, by go_num, rfl, Hn.out, hE⟩
            case measure => (simp [intOf]; omega)
      · have hkl : k = L.length := by omega
        subst hkl
        have Hz := Lib.hid (sidL_t (HS.out.all rfl))
        go_wp2_with fail
        go_ret
        exact ⟨ret_bool (by rw [Hs.out, Hz.out]), eW.trans hE⟩
theorem IsSidon_val (v : Value) (l : List Int) (a : Int) (w : World) (h : Ints w v l) {c : Bool} (hc : sidB l a = c) :
    Calls Tryz.prog 44 #[.agg #[v], .int .i64 a] w fun e w' => e = .returned (.bool c) ∧ Ext w w' := by subst hc; exact IsSidon_any v l a w h
def Col (l : List Int) (L : List Nat) (i j k m : Nat) : Prop := ¬ (k = i ∧ m = j) ∧ addF l (nthN L i) (nthN L j) = addF l (nthN L k) (nthN L m)
theorem sid_of {l : List Int} {L : List Nat} (h : ∀ i j k m, i < L.length → i ≤ j → j < L.length → k ≤ i → k ≤ m → m < L.length → ¬ Col l L i j k m) : Sid l L := by
  intro p q r t h1 h2 h3 h4 e
  rcases Nat.le_total r p with c | c
  · have := h p q r t (by omega) h1 h2 c h3 h4
    by_cases d : r = p ∧ t = q
    · exact ⟨d.1.symm, d.2.symm⟩
    · exact absurd ⟨d, e⟩ this
  · have := h r t p q (by omega) h3 h4 c h1 h2
    by_cases d : p = r ∧ q = t
    · exact d
    · exact absurd ⟨d, e.symm⟩ this
theorem sid_hit {l : List Int} {L : List Nat} {i j k m : Nat} (h1 : i ≤ j) (h2 : j < L.length) (h3 : k ≤ m) (h4 : m < L.length) (h : Col l L i j k m) : ¬ Sid l L := fun hS => by
  obtain ⟨e1, e2⟩ := hS i j k m h1 h2 h3 h4 h.2
  exact h.1 ⟨e1.symm, e2.symm⟩
theorem l22Sidon_any (v : Value) (l : List Int) (a : Nat) (w : World) (h : Ints w v l) (Hgr : Hid (isGrp l = true)) (h2 : a < 2 ^ 24) :
    Calls Tryz.prog 87 #[.agg #[v], .int .i64 a] w fun e w' => e = .returned (.bool (sidL l (elems a))) ∧ Ext w w' := by
  obtain ⟨wb, hwb⟩ : ∃ wb, wb = w.alloc (.cells #[v] 26) := ⟨_, rfl⟩
  have hE0 := (Ext.refl w).alloc (.cells #[v] 26)
  have hb := box_cell w v 26
  rw [← hwb] at hE0 hb
  have hg : ∀ W, Ext wb W → Ints W v l := fun W hW => h.ext (hE0.trans hW)
  have hE := Ext.refl wb
  have Hsz : Hid (w.heap.size + 1 = wb.heap.size) := Lib.hid (by rw [hwb]; simp [go_sem])
  have Hwb := Lib.hid hwb
  clear hwb h
  go_enter Tryz.func87, Tryz.ntmps87
  go_wp2_with fail
  rw [← Hwb.out]
  refine (l3List_any a h2 _).mono ?_
  rintro e w1 ⟨v1, rfl, hL, hE1⟩
  obtain ⟨aoL, cL, adrL, rfl, hadrL, hcellL⟩ := hL.ints.nats
  have hixL := ints_index (c := cL) elI szI hadrL
  have hb1 : ∀ W, Ext w1 W → W.cell? ⟨w.heap.size, 0, none⟩ = some v := fun W hW => hb W (hE1.trans hW)
  have hg1 : ∀ W, Ext w1 W → Ints W v l := fun W hW => hg W (hE1.trans hW)
  have eW := hE0.trans hE1
  have hall : ∀ y ∈ elems a, y < 24 := fun y hy => elems_lt hy
  have hlen := elems_len a
  clear hb hg hE hE1 hL hadrL
  obtain ⟨R, HR1⟩ : ∃ R, Hid (R = sidL l (elems a)) := ⟨_, Lib.hid rfl⟩
  have HR2 := HR1
  generalize elems a = L at hcellL hixL hall hlen HR2 ⊢
  have hE := Ext.refl w1
  go_wp2_with fail
  go_loopw [6] (fun s wr => ∃ i : Nat, i ≤ L.length ∧ s = .int .i64 i ∧ (∀ i' j k m, i' < i → i' ≤ j → j < L.length → k ≤ i' → k ≤ m → m < L.length → ¬ Col l L i' j k m) ∧ Ext w1 wr) (fun s _ => L.length - (intOf s).toNat)
  case atStart => exact ⟨0, by omega, rfl, by omega, hE⟩
  case round =>
    clear hE
    obtain ⟨i, hi, rfl, hno, hE⟩ := hrel
    have Hno1 := Lib.hid hno
    clear hno
    by_cases hlt : i < L.length
    · go_wp2_with fail
      go_loopw [7] (fun s wr => ∃ j : Nat, i ≤ j ∧ j ≤ L.length ∧ s = .int .i64 j ∧ (∀ j' k m, i ≤ j' → j' < j → k ≤ i → k ≤ m → m < L.length → ¬ Col l L i j' k m) ∧ Ext w1 wr) (fun s _ => L.length - (intOf s).toNat)
      case atStart => exact ⟨i, by omega, by omega, rfl, by omega, hE⟩
      case round =>
        clear hE
        obtain ⟨j, hij, hj, rfl, hno, hE⟩ := hrel
        have Hno2 := Lib.hid hno
        clear hno
        by_cases hltj : j < L.length
        · go_wp2_with fail
          go_loopw [8] (fun s wr => ∃ k : Nat, k ≤ i + 1 ∧ s = .int .i64 k ∧ (∀ k' m, k' < k → k' ≤ m → m < L.length → ¬ Col l L i j k' m) ∧ Ext w1 wr) (fun s _ => i + 1 - (intOf s).toNat)
          case atStart => exact ⟨0, by omega, rfl, by omega, hE⟩
          case round =>
            clear hE
            obtain ⟨k, hk, rfl, hno, hE⟩ := hrel
            have Hno3 := Lib.hid hno
            clear hno
            by_cases hltk : k ≤ i
            · go_wp2_with fail
              go_loopw [9] (fun s wr => ∃ m : Nat, k ≤ m ∧ m ≤ L.length ∧ s = .int .i64 m ∧ (∀ m', k ≤ m' → m' < m → ¬ Col l L i j k m') ∧ Ext w1 wr) (fun s _ => L.length - (intOf s).toNat)
              case atStart => exact ⟨k, by omega, by omega, rfl, by omega, hE⟩
              case round =>
                clear hE
                obtain ⟨m, hkm, hm, rfl, hno, hE⟩ := hrel
                have Hno4 := Lib.hid hno
                clear hno
                by_cases hltm : m < L.length
                · have hci := fun U => hcellL i _ hlt (hE.trans (lat_ext wr U))
                  have hcj := fun U => hcellL j _ hltj (hE.trans (lat_ext wr U))
                  have hkl : k < L.length := by omega
                  have hck := fun U => hcellL k _ hkl (hE.trans (lat_ext wr U))
                  have hcm := fun U => hcellL m _ hltm (hE.trans (lat_ext wr U))
                  have hbu := fun U => hb1 _ (hE.trans (lat_ext wr U))
                  have hgr' : ∀ W, Ext wr W → Ints W v l := fun W hW => hg1 W (hE.trans hW)
                  have q1 := hall _ (nthN_mem hlt)
                  have q2 := hall _ (nthN_mem hltj)
                  have q3 := hall _ (nthN_mem hkl)
                  have q4 := hall _ (nthN_mem hltm)
                  have hE4 := hE
                  clear hE
                  have hE := Ext.refl wr
                  by_cases hp : k = i ∧ m = j
                  · have Hc : Hid (¬ Col l L i j k m) := Lib.hid (fun c => c.1 hp)
                    have b1 : ((k : Int) != (i : Int)) = false := by simp; omega
                    have b2 : ((m : Int) != (j : Int)) = false := by simp; omega
                    clear hp
                    go_wp2_with fail
                    (refine wp_region_lat (wr) (by kernel_rfl) (by kernel_rfl) hE ?_); (repeat (go_big_quiet_step (first | (go_at_call 93; exact Calls.lat (l2Add_any _ _ _ _ _ (hgr' _ (lat_ext wr _)) (Hgr) ((by omega)) ((by omega))))))); (refine wpQuiet_nil ?_); (intro W hE'); (replace hE := lat_of hE'); (clear hE')
                    go_wp2_with fail
                    go_roundw
                    case rel => exact ⟨m + 1, by omega, by omega, by go_num, fun m' h1 h2 => by by_cases e : m' = m; (subst e; exact Hc.out); exact Hno4.out m' h1 (by omega), hE4.trans hE⟩
                    case measure => (simp [intOf]; omega)
                  · by_cases hs : addF l (nthN L i) (nthN L j) = addF l (nthN L k) (nthN L m)
                    · have Hz := Lib.hid (sidL_f (sid_hit hij hltj hkm hltm ⟨hp, hs⟩))
                      have b3 : ((addF l (nthN L i) (nthN L j) : Int) == (addF l (nthN L k) (nthN L m) : Int)) = true := by rw [hs]; simp
                      by_cases hki : k = i
                      · have b1 : ((k : Int) != (i : Int)) = false := by simp; omega
                        have b2 : ((m : Int) != (j : Int)) = true := by simp; omega
                        clear hp hs hki
                        go_wp2_with fail
                        (refine wp_region_lat (wr) (by kernel_rfl) (by kernel_rfl) hE ?_); (repeat (go_big_quiet_step (first | (go_at_call 93; exact Calls.lat (l2Add_any _ _ _ _ _ (hgr' _ (lat_ext wr _)) (Hgr) ((by omega)) ((by omega))))))); (refine wpQuiet_nil ?_); (intro W hE'); (replace hE := lat_of hE'); (clear hE')
                        go_wp2_with fail
                        go_ret
                        exact ⟨ret_bool (by rw [← HR1.out, HR2.out, Hz.out]), eW.trans (hE4.trans hE)⟩
                      · have b1 : ((k : Int) != (i : Int)) = true := by simp; omega
                        clear hp hs hki
                        go_wp2_with fail
                        (refine wp_region_lat (wr) (by kernel_rfl) (by kernel_rfl) hE ?_); (repeat (go_big_quiet_step (first | (go_at_call 93; exact Calls.lat (l2Add_any _ _ _ _ _ (hgr' _ (lat_ext wr _)) (Hgr) ((by omega)) ((by omega))))))); (refine wpQuiet_nil ?_); (intro W hE'); (replace hE := lat_of hE'); (clear hE')
                        go_wp2_with fail
                        go_ret
                        exact ⟨ret_bool (by rw [← HR1.out, HR2.out, Hz.out]), eW.trans (hE4.trans hE)⟩
                    · have Hc : Hid (¬ Col l L i j k m) := Lib.hid (fun c => hs c.2)
                      have b3 : ((addF l (nthN L i) (nthN L j) : Int) == (addF l (nthN L k) (nthN L m) : Int)) = false := by simp; omega
                      by_cases hki : k = i
                      · have b1 : ((k : Int) != (i : Int)) = false := by simp; omega
                        have b2 : ((m : Int) != (j : Int)) = true := by simp; omega
                        clear hp hs hki
                        go_wp2_with fail
                        (refine wp_region_lat (wr) (by kernel_rfl) (by kernel_rfl) hE ?_); (repeat (go_big_quiet_step (first | (go_at_call 93; exact Calls.lat (l2Add_any _ _ _ _ _ (hgr' _ (lat_ext wr _)) (Hgr) ((by omega)) ((by omega))))))); (refine wpQuiet_nil ?_); (intro W hE'); (replace hE := lat_of hE'); (clear hE')
                        go_wp2_with fail
                        go_roundw
                        case rel => exact ⟨m + 1, by omega, by omega, by go_num, fun m' h1 h2 => by by_cases e : m' = m; (subst e; exact Hc.out); exact Hno4.out m' h1 (by omega), hE4.trans hE⟩
                        case measure => (simp [intOf]; omega)
                      · have b1 : ((k : Int) != (i : Int)) = true := by simp; omega
                        clear hp hs hki
                        go_wp2_with fail
                        (refine wp_region_lat (wr) (by kernel_rfl) (by kernel_rfl) hE ?_); (repeat (go_big_quiet_step (first | (go_at_call 93; exact Calls.lat (l2Add_any _ _ _ _ _ (hgr' _ (lat_ext wr _)) (Hgr) ((by omega)) ((by omega))))))); (refine wpQuiet_nil ?_); (intro W hE'); (replace hE := lat_of hE'); (clear hE')
                        go_wp2_with fail
                        go_roundw
                        case rel => exact ⟨m + 1, by omega, by omega, by go_num, fun m' h1 h2 => by by_cases e : m' = m; (subst e; exact Hc.out); exact Hno4.out m' h1 (by omega), hE4.trans hE⟩
                        case measure => (simp [intOf]; omega)
                · have hml : m = L.length := by omega
                  go_wp2_with fail
                  go_roundw
                  case rel => exact ⟨k + 1, by omega, by go_num, fun k' m' h1 h2 h3 => by by_cases e : k' = k; (subst e; exact Hno4.out m' h2 (by omega)); exact Hno3.out k' m' (by omega) h2 h3, hE⟩
                  case measure => (simp [intOf]; omega)
            · go_wp2_with fail
              go_roundw
              case rel => exact ⟨j + 1, by omega, by omega, by go_num, fun j' k' m' h1 h2 h3 h4 h5 => by by_cases e : j' = j; (subst e; exact Hno3.out k' m' (by omega) h4 h5); exact Hno2.out j' k' m' h1 (by omega) h3 h4 h5, hE⟩
              case measure => (simp [intOf]; omega)
        · go_wp2_with fail
          go_roundw
          case rel => exact ⟨i + 1, by omega, by go_num, fun i' j' k' m' h1 h2 h3 h4 h5 h6 => by by_cases e : i' = i; (subst e; exact Hno2.out j' k' m' h2 (by omega) h4 h5 h6); exact Hno1.out i' j' k' m' (by omega) h2 h3 h4 h5 h6, hE⟩
          case measure => (simp [intOf]; omega)
    · have hil : i = L.length := by omega
      have Hz := Lib.hid (sidL_t (sid_of (l := l) (L := L) fun i' j' k' m' h1 => Hno1.out i' j' k' m' (by omega)))
      go_wp2_with fail
      go_ret
      exact ⟨ret_bool (by rw [← HR1.out, HR2.out, Hz.out]), eW.trans hE⟩
theorem sIsSidon_any (v : Value) (l : List Int) (a : Int) (w : World) (h : Ints w v l) :
    Calls Tryz.prog 50 #[.agg #[v], .int .i64 a] w fun e w' => e = .returned (.bool (sidB l a)) ∧ Ext w w' := by
  obtain ⟨wb, hwb⟩ : ∃ wb, wb = w.alloc (.cells #[v] 26) := ⟨_, rfl⟩
  have hE0 := (Ext.refl w).alloc (.cells #[v] 26)
  have hb := box_cell w v 26
  rw [← hwb] at hE0 hb
  have hg : ∀ W, Ext wb W → Ints W v l := fun W hW => h.ext (hE0.trans hW)
  have hE := Ext.refl wb
  have Hsz : Hid (w.heap.size + 1 = wb.heap.size) := Lib.hid (by rw [hwb]; simp [go_sem])
  have Hwb := Lib.hid hwb
  clear hwb h
  have hbx := hb wb hE
  cases hs : isSetB l a
  · have Hs := Lib.hid (sidB_no hs)
    go_enter Tryz.func50, Tryz.ntmps50
    go_wp2_with fail
    rw [← Hwb.out]
    go_wp2_with (first | (go_at_call 16; refine (sIsSet_val _ _ _ _ (hg _ hE) (hs)).mono ?_; rintro e w' ⟨rfl, hE'⟩; replace hE := hE.trans hE'; clear hE'))
    go_ret
    exact ⟨ret_bool Hs.out.symm, hE0.trans hE⟩
  · obtain ⟨n, rfl, h1, h2, hgr⟩ := isSetB_nat hs
    have Hs := Lib.hid (sidB_yes hs)
    have Hgr := Lib.hid hgr
    clear hgr
    go_enter Tryz.func50, Tryz.ntmps50
    go_wp2_with fail
    rw [← Hwb.out]
    go_wp2_with (first | (go_at_call 16; refine (sIsSet_val _ _ _ _ (hg _ hE) (hs)).mono ?_; rintro e w' ⟨rfl, hE'⟩; replace hE := hE.trans hE'; clear hE') | (go_at_call 87; refine (l22Sidon_any _ _ _ _ (hg _ hE) Hgr h2).mono ?_; rintro e w' ⟨rfl, hE'⟩; replace hE := hE.trans hE'; clear hE'))
    go_ret
    exact ⟨ret_bool Hs.out.symm, hE0.trans hE⟩
theorem sIsSidon_val (v : Value) (l : List Int) (a : Int) (w : World) (h : Ints w v l) {c : Bool} (hc : sidB l a = c) :
    Calls Tryz.prog 50 #[.agg #[v], .int .i64 a] w fun e w' => e = .returned (.bool c) ∧ Ext w w' := by subst hc; exact sIsSidon_any v l a w h
end Go.Zz

/- Boxes. -/
namespace Go.Zz
open Go.RowKit Go.Proofs
set_option maxHeartbeats 4000000
set_option maxRecDepth 20000

theorem progression0_any (v : Value) (l : List Int) (d n : Nat) (w : World) (h : Ints w v l) (Hgr : Hid (isGrp l = true)) (hd : d < 24) (hn : n ≤ 24) :
    Calls Tryz.prog 88 #[.agg #[v], .int .i64 0, .int .i64 d, .int .i64 n] w fun e w' => e = .returned (.int .i64 (prSet l 0 d n : Nat)) ∧ Ext w w' := progression_any v l 0 d n w h Hgr (by omega) hd hn
theorem l10Progression0_any (v : Value) (l : List Int) (d n : Nat) (w : World) (h : Ints w v l) (Hgr : Hid (isGrp l = true)) (hd : d < 24) (hn : n ≤ 24) :
    Calls Tryz.prog 103 #[.agg #[v], .int .i64 0, .int .i64 d, .int .i64 n] w fun e w' => e = .returned (.int .i64 (prSet l 0 d n : Nat)) ∧ Ext w w' := l10Progression_any v l 0 d n w h Hgr (by omega) hd hn
/-- two values and a bool -/
def BoxP (b : Bool) (w : World) (e : Ending) (w' : World) : Prop := ∃ p q, e = .returned (.tuple #[p, q, .bool b]) ∧ Ext w w'
theorem quo_val {a m : Nat} (ha : a ≤ 24) : wrap64 ((a : Int) / (m : Int)) = ((a / m : Nat) : Int) := by
  rw [← Int.natCast_ediv]
  exact wrapN _ (by have := Nat.div_le_self a m; omega)
theorem FindBox_any (v : Value) (l : List Int) (a : Int) (w : World) (h : Ints w v l) :
    Calls Tryz.prog 81 #[.agg #[v], .int .i64 a] w (BoxP (boxB l a) w) := by
  obtain ⟨wb, hwb⟩ : ∃ wb, wb = w.alloc (.cells #[v] 26) := ⟨_, rfl⟩
  have hE0 := (Ext.refl w).alloc (.cells #[v] 26)
  have hb := box_cell w v 26
  rw [← hwb] at hE0 hb
  have hg : ∀ W, Ext wb W → Ints W v l := fun W hW => h.ext (hE0.trans hW)
  have hE := Ext.refl wb
  have Hsz : Hid (w.heap.size + 1 = wb.heap.size) := Lib.hid (by rw [hwb]; simp [go_sem])
  have Hwb := Lib.hid hwb
  clear hwb h
  have hbx := hb wb hE
  cases hs : isSetB l a
  · have Hs := Lib.hid (boxB_no (isOneB_no hs))
    go_enter Tryz.func81, Tryz.ntmps81
    go_wp2_with fail
    rw [← Hwb.out]
    refine (OrderOf_any _ _ _ (hg _ hE)).mono ?_
    rintro e w1 ⟨rfl, hE1⟩
    have hbx1 := hb _ hE1
    go_wp2_with fail
    refine (IsSet_val _ _ _ _ (hg _ hE1) hs).mono ?_
    rintro e wZ ⟨rfl, hE2⟩
    have hEZ := hE0.trans (hE1.trans hE2)
    go_wp2_with fail
    exact bodyPost_ret (v := .tuple #[.slice (some ⟨wZ.heap.size, 0, none⟩) 0 0, .slice (some ⟨wZ.heap.size + 1, 0, none⟩) 0 0, .bool false]) (by simp [results, Tryz.results81, go_sem]) rfl ⟨_, _, by rw [Hs.out], (hEZ.alloc _).alloc _⟩
  · obtain ⟨n, rfl, h1, h2, hgr⟩ := isSetB_nat hs
    by_cases h0 : n = 0
    · subst h0
      have Hs : Hid (boxB l ((0 : Nat) : Int) = false) := Lib.hid (boxB_no (isOneB_zero l))
      go_enter Tryz.func81, Tryz.ntmps81
      go_wp2_with fail
      rw [← Hwb.out]
      refine (OrderOf_any _ _ _ (hg _ hE)).mono ?_
      rintro e w1 ⟨rfl, hE1⟩
      have hbx1 := hb _ hE1
      go_wp2_with fail
      refine (IsSet_val _ _ _ _ (hg _ hE1) hs).mono ?_
      rintro e wZ ⟨rfl, hE2⟩
      have hEZ := hE0.trans (hE1.trans hE2)
      go_wp2_with fail
      exact bodyPost_ret (v := .tuple #[.slice (some ⟨wZ.heap.size, 0, none⟩) 0 0, .slice (some ⟨wZ.heap.size + 1, 0, none⟩) 0 0, .bool false]) (by simp [results, Tryz.results81, go_sem]) rfl ⟨_, _, by rw [Hs.out], (hEZ.alloc _).alloc _⟩
    · have Hs := Lib.hid (boxB_yes (isOneB_yes hs (by omega)))
      have h0' : ((n : Int) == 0) = false := by simp; omega
      have Hgr := Lib.hid hgr
      have hob := ord_bd hgr
      have hcn := cnt_le n
      clear hgr h0 h1
      go_enter Tryz.func81, Tryz.ntmps81
      go_wp2_with fail
      rw [← Hwb.out]
      refine (OrderOf_grp _ _ _ (hg _ hE) Hgr).mono ?_
      rintro e w1 ⟨rfl, hE1⟩
      have hbx1 := hb _ hE1
      go_wp2_with fail
      refine (IsSet_val _ _ _ _ (hg _ hE1) hs).mono ?_
      rintro e w2 ⟨rfl, hE2⟩
      go_wp2_with (first | (go_at_call 33; refine (bits_any _ (h2) _).mono ?_; rintro e w' ⟨rfl, rfl⟩))
      have eW := hE0.trans (hE1.trans hE2)
      have hb1 : ∀ W, Ext w2 W → W.cell? ⟨w.heap.size, 0, none⟩ = some v := fun W hW => hb W (hE1.trans (hE2.trans hW))
      have hg1 : ∀ W, Ext w2 W → Ints W v l := fun W hW => hg W (hE1.trans (hE2.trans hW))
      clear hb hg hbx hbx1 hE hE1 hE2 h0' hs
      have hE := Ext.refl w2
      go_loopw [9] (fun s wr => ∃ m : Nat, 1 ≤ m ∧ m ≤ 5 ∧ s = .int .i64 m ∧ (∀ m', 1 ≤ m' → m' < m → bxM l n m' = false) ∧ Ext w2 wr) (fun s _ => 5 - (intOf s).toNat)
      case atStart => exact ⟨1, by omega, by omega, rfl, by omega, hE⟩
      case round =>
        clear hE
        obtain ⟨m, hm1, hm5, rfl, hno, hE⟩ := hrel
        have Hno1 := Lib.hid hno
        clear hno
        have hmm0 : 0 ≤ (m : Int) * (m : Int) ∧ (m : Int) * (m : Int) ≤ 25 := by
          have := Nat.mul_le_mul hm5 hm5
          rw [← Int.natCast_mul]; omega
        obtain ⟨hmm0, hmm1⟩ := hmm0
        by_cases hlt : m * m ≤ cnt n
        · have hlti : (m : Int) * (m : Int) ≤ (cnt n : Int) := by rw [← Int.natCast_mul]; omega
          have hm4 : m ≤ 4 := by
            rcases Nat.lt_or_ge 4 m with c | c
            · have := Nat.mul_le_mul c c; omega
            · exact c
          have Hlt := Lib.hid hlt
          clear hlt
          by_cases hmd : cnt n % m = 0
          · have hmod : ((cnt n : Int) % (m : Int) != 0) = false := by rw [← Int.natCast_emod, hmd]; rfl
            have hq1 := quo_val (m := m) hcn
            have hm0 : ((m : Int) == 0) = false := by simp; omega
            have Hmd := Lib.hid hmd
            obtain ⟨q, hq⟩ : ∃ q, q = cnt n / m := ⟨_, rfl⟩
            have hq24 : q ≤ 24 := by rw [hq]; exact Nat.le_trans (Nat.div_le_self _ _) hcn
            rw [← hq] at hq1
            have Hq1 := Lib.hid hq1
            have Hq := Lib.hid hq
            clear hmd hq hq1
            go_wp2_with fail
            go_loopw [40] (fun s wr => ∃ d : Nat, d ≤ ord l ∧ s = .int .i64 d ∧ (∀ d', d' < d → ∀ e, e < ord l → bxAt l n m d' e = false) ∧ Ext w2 wr) (fun s _ => ord l - (intOf s).toNat)
            case atStart => exact ⟨0, by omega, rfl, by omega, hE⟩
            case round =>
              clear hE
              obtain ⟨d, hd, rfl, hno, hE⟩ := hrel
              have Hno2 := Lib.hid hno
              clear hno
              by_cases hltd : d < ord l
              · go_wp2_with fail
                go_loopw [44] (fun s wr => ∃ e : Nat, e ≤ ord l ∧ s = .int .i64 e ∧ (∀ e', e' < e → bxAt l n m d e' = false) ∧ Ext w2 wr) (fun s _ => ord l - (intOf s).toNat)
                case atStart => exact ⟨0, by omega, rfl, by omega, hE⟩
                case round =>
                  clear hE
                  obtain ⟨e, he, rfl, hno, hE⟩ := hrel
                  have Hno3 := Lib.hid hno
                  clear hno
                  by_cases hlte : e < ord l
                  · have hbu := fun U => hb1 _ (hE.trans (lat_ext wr U))
                    have hgr' : ∀ W, Ext wr W → Ints W v l := fun W hW => hg1 W (hE.trans hW)
                    have p1 := prSet_bd Hgr.out (s := 0) (by omega) d m
                    have p2 := prSet_bd Hgr.out (s := 0) (by omega) e q
                    have hB := sumF_bd Hgr.out (prSet l 0 d m) (prSet l 0 e q)
                    have HB : Hid (bxS l n m d e = sumF l (prSet l 0 d m) (prSet l 0 e q)) := Lib.hid (by unfold bxS; rw [Hq.out])
                    have hE1 := hE
                    clear hE
                    have hE := Ext.refl wr
                    have d24 : d < 24 := by omega
                    have e24 : e < 24 := by omega
                    have m24 : m ≤ 24 := by omega
                    have hq1 := Hq1.out
                    go_wp2_with fail
                    (refine wp_region_lat (wr) (by kernel_rfl) (by kernel_rfl) hE ?_); (repeat (go_big_quiet_step (first | (go_at_call 88; with_reducible exact Calls.lat (progression0_any _ _ d m _ (hgr' _ (lat_ext wr _)) Hgr d24 m24)) | (go_at_call 88; with_reducible exact Calls.lat (progression0_any _ _ e q _ (hgr' _ (lat_ext wr _)) Hgr e24 hq24)) | (go_at_call 28; with_reducible exact Calls.lat (sum_any _ _ _ _ _ (hgr' _ (lat_ext wr _)) Hgr p1 p2))))); (refine wpQuiet_nil ?_); (intro W hE'); (replace hE := lat_of hE'); (clear hE')
                    replace hE := hE1.trans hE
                    rw [← HB.out] at hB
                    rw [← HB.out]
                    clear hE1 hgr' hbu p1 p2 hq1
                    by_cases hc : cnt (bxS l n m d e) = cnt n
                    · have hci : ((cnt (bxS l n m d e) : Int) != (cnt n : Int)) = false := by rw [hc]; simp
                      have Hc := Lib.hid hc
                      clear hc
                      generalize hBB : bxS l n m d e = B at hB HB Hc hci ⊢
                      have HBB := Lib.hid hBB
                      clear hBB
                      go_wp2_with (first | (go_at_call 33; refine (bits_any _ (hB) _).mono ?_; rintro e w' ⟨rfl, rfl⟩))
                      go_loopw [64] (fun s wr => ∃ x : Nat, x ≤ ord l ∧ s = .int .i64 x ∧ (∀ x', x' < x → ¬ shiftF l B x' = n) ∧ Ext w2 wr) (fun s _ => ord l - (intOf s).toNat)
                      case atStart => exact ⟨0, by omega, rfl, by omega, hE⟩
                      case round =>
                        clear hE
                        obtain ⟨x, hx, rfl, hno, hE⟩ := hrel
                        have Hno4 := Lib.hid hno
                        clear hno
                        by_cases hltx : x < ord l
                        · have hbx := hb1 _ hE
                          have x24 : x < 24 := by omega
                          by_cases hsx : shiftF l B x = n
                          · have hsi : ((shiftF l B x : Int) == (n : Int)) = true := by rw [hsx]; simp
                            have Hz := Lib.hid (bxN_hit hm1 Hlt.out Hmd.out hltd hlte hltx (by rw [HBB.out]; exact Hc.out) (by rw [HBB.out]; exact hsx))
                            clear hsx
                            go_wp2_with fail
                            refine (shift_any _ _ _ _ _ (hg1 _ hE) Hgr hB x24).mono ?_
                            rintro e' wr ⟨rfl, hE'⟩
                            replace hE := hE.trans hE'
                            clear hE' hbx
                            have hq1 := Hq1.out
                            have hm0n : ¬ m = 0 := fun e => Nat.lt_irrefl 0 (by rw [e] at hm1; exact hm1)
                            have hm0' : ¬ (m : Int) = 0 := fun e => hm0n (Int.ofNat_eq_zero.1 e)
                            have hD := (Ext.refl wr).drew
                            go_wp2_with fail
                            first | (go_region_held3 (fun W => Ext wr W) (exact (by repeat (first | assumption | exact Ext.refl _ | (apply And.left; assumption) | apply Ext.drew | apply Ext.alloc))) (first | fail)) | (fail "the region that returns")
                            all_goals go_wp2_with fail
                            all_goals
                              first
                              | (refine bodyPost_ret (v := .tuple #[.slice (some ⟨wr.heap.size, 0, none⟩) 2 2, .slice (some ⟨wr.heap.size + 1, 0, none⟩) 2 2, .bool true]) ?_ rfl ⟨_, _, by rw [Hs.out, Hz.out], eW.trans (hE.trans (by repeat (first | assumption | exact Ext.refl _ | (apply And.left; assumption) | apply Ext.drew | apply Ext.alloc)))⟩; (simp [results, Tryz.results81, go_sem]; done))
                              | (refine bodyPost_ret (v := .tuple #[.slice (some ⟨wr.heap.size + 1, 0, none⟩) 2 2, .slice (some ⟨wr.heap.size, 0, none⟩) 2 2, .bool true]) ?_ rfl ⟨_, _, by rw [Hs.out, Hz.out], eW.trans (hE.trans (by repeat (first | assumption | exact Ext.refl _ | (apply And.left; assumption) | apply Ext.drew | apply Ext.alloc)))⟩; (simp [results, Tryz.results81, go_sem]; done))
                          · have Hsx := Lib.hid hsx
                            have hsi : ((shiftF l B x : Int) == (n : Int)) = false := by simp; omega
                            clear hsx
                            go_wp2_with fail
                            refine (shift_any _ _ _ _ _ (hg1 _ hE) Hgr hB x24).mono ?_
                            rintro e' wr ⟨rfl, hE'⟩
                            replace hE := hE.trans hE'
                            clear hE' hbx
                            go_wp2_with fail
                            go_roundw
                            case rel => exact ⟨x + 1, by omega, by go_num, fun x' h => by by_cases q : x' = x; (subst q; exact Hsx.out); exact Hno4.out x' (by omega), hE⟩
                            case measure => (simp [intOf]; omega)
                        · have hxl : x = ord l := by omega
                          have Hn : Hid (bxAt l n m d e = false) := Lib.hid (bxAt_no fun x' h => by rw [HBB.out]; exact Hno4.out x' (by omega))
                          go_wp2_with fail
                          go_roundw
                          case rel => exact ⟨e + 1, by omega, by go_num, fun e' h => by by_cases q : e' = e; (subst q; exact Hn.out); exact Hno3.out e' (by omega), hE⟩
                          case measure => (simp [intOf]; omega)
                    · have hci : ((cnt (bxS l n m d e) : Int) != (cnt n : Int)) = true := by simp; omega
                      have Hn := Lib.hid (bxAt_cnt hc)
                      clear hc
                      generalize bxS l n m d e = B at hB HB hci ⊢
                      go_wp2_with (first | (go_at_call 33; refine (bits_any _ (hB) _).mono ?_; rintro e w' ⟨rfl, rfl⟩))
                      go_roundw
                      case rel => exact ⟨e + 1, by omega, by go_num, fun e' h => by by_cases q : e' = e; (subst q; exact Hn.out); exact Hno3.out e' (by omega), hE⟩
                      case measure => (simp [intOf]; omega)
                  · have hel : e = ord l := by omega
                    go_wp2_with fail
                    go_roundw
                    case rel => exact ⟨d + 1, by omega, by go_num, fun d' h e' h' => by by_cases q : d' = d; (subst q; exact Hno3.out e' (by omega)); exact Hno2.out d' (by omega) e' h', hE⟩
                    case measure => (simp [intOf]; omega)
              · have hdl : d = ord l := by omega
                have Hn : Hid (bxM l n m = false) := Lib.hid (bxM_no fun d' h e' h' => Hno2.out d' (by omega) e' h')
                go_wp2_with fail
                go_roundw
                case rel => exact ⟨m + 1, by omega, by omega, by go_num, fun m' h h' => by by_cases q : m' = m; (subst q; exact Hn.out); exact Hno1.out m' h (by omega), hE⟩
                case measure => (simp [intOf]; omega)
          · have hmod : ((cnt n : Int) % (m : Int) != 0) = true := by rw [← Int.natCast_emod]; simp; omega
            have hm0 : ((m : Int) == 0) = false := by simp; omega
            have Hn := Lib.hid (bxM_mod (l := l) hmd)
            clear hmd
            go_wp2_with fail
            go_roundw
            case rel => exact ⟨m + 1, by omega, by omega, by go_num, fun m' h h' => by by_cases q : m' = m; (subst q; exact Hn.out); exact Hno1.out m' h (by omega), hE⟩
            case measure => (simp [intOf]; omega)
        · have hlti : ¬ (m : Int) * (m : Int) ≤ (cnt n : Int) := by rw [← Int.natCast_mul]; omega
          have Hz := Lib.hid (bxN_no Hno1.out hlt)
          clear hlt
          go_wp2_with fail
          exact bodyPost_ret (v := .tuple #[.slice (some ⟨wr.heap.size, 0, none⟩) 0 0, .slice (some ⟨wr.heap.size + 1, 0, none⟩) 0 0, .bool false]) (by simp [results, Tryz.results81, go_sem]) rfl ⟨_, _, by rw [Hs.out, Hz.out], eW.trans ((hE.alloc _).alloc _)⟩
theorem sFindBox_any (v : Value) (l : List Int) (a : Int) (w : World) (h : Ints w v l) :
    Calls Tryz.prog 86 #[.agg #[v], .int .i64 a] w (BoxP (boxB l a) w) := by
  obtain ⟨wb, hwb⟩ : ∃ wb, wb = w.alloc (.cells #[v] 26) := ⟨_, rfl⟩
  have hE0 := (Ext.refl w).alloc (.cells #[v] 26)
  have hb := box_cell w v 26
  rw [← hwb] at hE0 hb
  have hg : ∀ W, Ext wb W → Ints W v l := fun W hW => h.ext (hE0.trans hW)
  have hE := Ext.refl wb
  have Hsz : Hid (w.heap.size + 1 = wb.heap.size) := Lib.hid (by rw [hwb]; simp [go_sem])
  have Hwb := Lib.hid hwb
  clear hwb h
  have hbx := hb wb hE
  cases hs : isSetB l a
  · have Hs := Lib.hid (boxB_no (isOneB_no hs))
    go_enter Tryz.func86, Tryz.ntmps86
    go_wp2_with fail
    rw [← Hwb.out]
    refine (sIsSet_val _ _ _ _ (hg _ hE) hs).mono ?_
    rintro e wZ ⟨rfl, hE2⟩
    have hEZ := hE0.trans hE2
    go_wp2_with fail
    exact bodyPost_ret (v := .tuple #[.slice (some ⟨wZ.heap.size, 0, none⟩) 0 0, .slice (some ⟨wZ.heap.size + 1, 0, none⟩) 0 0, .bool false]) (by simp [results, Tryz.results86, go_sem]) rfl ⟨_, _, by rw [Hs.out], (hEZ.alloc _).alloc _⟩
  · obtain ⟨n, rfl, h1, h2, hgr⟩ := isSetB_nat hs
    by_cases h0 : n = 0
    · subst h0
      have Hs : Hid (boxB l ((0 : Nat) : Int) = false) := Lib.hid (boxB_no (isOneB_zero l))
      go_enter Tryz.func86, Tryz.ntmps86
      go_wp2_with fail
      rw [← Hwb.out]
      refine (sIsSet_val _ _ _ _ (hg _ hE) hs).mono ?_
      rintro e wZ ⟨rfl, hE2⟩
      have hEZ := hE0.trans hE2
      go_wp2_with fail
      exact bodyPost_ret (v := .tuple #[.slice (some ⟨wZ.heap.size, 0, none⟩) 0 0, .slice (some ⟨wZ.heap.size + 1, 0, none⟩) 0 0, .bool false]) (by simp [results, Tryz.results86, go_sem]) rfl ⟨_, _, by rw [Hs.out], (hEZ.alloc _).alloc _⟩
    · have Hs := Lib.hid (boxB_yes (isOneB_yes hs (by omega)))
      have h0' : ((n : Int) == 0) = false := by simp; omega
      have Hgr := Lib.hid hgr
      have hob := ord_bd hgr
      have hcn := cnt_le n
      clear hgr h0 h1
      go_enter Tryz.func86, Tryz.ntmps86
      go_wp2_with fail
      rw [← Hwb.out]
      refine (sIsSet_val _ _ _ _ (hg _ hE) hs).mono ?_
      rintro e w1 ⟨rfl, hE1⟩
      go_wp2_with (first | (go_at_call 36; refine (l3Bits_any _ (h2) _).mono ?_; rintro e w' ⟨rfl, rfl⟩))
      refine (l2Order_any _ _ _ (hg _ hE1) Hgr).mono ?_
      rintro e w2 ⟨rfl, hE2⟩
      go_wp2_with fail
      have eW := hE0.trans (hE1.trans hE2)
      have hb1 : ∀ W, Ext w2 W → W.cell? ⟨w.heap.size, 0, none⟩ = some v := fun W hW => hb W (hE1.trans (hE2.trans hW))
      have hg1 : ∀ W, Ext w2 W → Ints W v l := fun W hW => hg W (hE1.trans (hE2.trans hW))
      clear hb hg hbx hE hE1 hE2 h0' hs
      have hE := Ext.refl w2
      go_loopw [9] (fun s wr => ∃ m : Nat, 1 ≤ m ∧ m ≤ 5 ∧ s = .int .i64 m ∧ (∀ m', 1 ≤ m' → m' < m → bxM l n m' = false) ∧ Ext w2 wr) (fun s _ => 5 - (intOf s).toNat)
      case atStart => exact ⟨1, by omega, by omega, rfl, by omega, hE⟩
      case round =>
        clear hE
        obtain ⟨m, hm1, hm5, rfl, hno, hE⟩ := hrel
        have Hno1 := Lib.hid hno
        clear hno
        have hmm0 : 0 ≤ (m : Int) * (m : Int) ∧ (m : Int) * (m : Int) ≤ 25 := by
          have := Nat.mul_le_mul hm5 hm5
          rw [← Int.natCast_mul]; omega
        obtain ⟨hmm0, hmm1⟩ := hmm0
        by_cases hlt : m * m ≤ cnt n
        · have hlti : (m : Int) * (m : Int) ≤ (cnt n : Int) := by rw [← Int.natCast_mul]; omega
          have hm4 : m ≤ 4 := by
            rcases Nat.lt_or_ge 4 m with c | c
            · have := Nat.mul_le_mul c c; omega
            · exact c
          have Hlt := Lib.hid hlt
          clear hlt
          by_cases hmd : cnt n % m = 0
          · have hmod : ((cnt n : Int) % (m : Int) != 0) = false := by rw [← Int.natCast_emod, hmd]; rfl
            have hq1 := quo_val (m := m) hcn
            have hm0 : ((m : Int) == 0) = false := by simp; omega
            have Hmd := Lib.hid hmd
            obtain ⟨q, hq⟩ : ∃ q, q = cnt n / m := ⟨_, rfl⟩
            have hq24 : q ≤ 24 := by rw [hq]; exact Nat.le_trans (Nat.div_le_self _ _) hcn
            rw [← hq] at hq1
            have Hq1 := Lib.hid hq1
            have Hq := Lib.hid hq
            clear hmd hq hq1
            go_wp2_with fail
            go_loopw [10] (fun s wr => ∃ d : Nat, d ≤ ord l ∧ s = .int .i64 d ∧ (∀ d', d' < d → ∀ e, e < ord l → bxAt l n m d' e = false) ∧ Ext w2 wr) (fun s _ => ord l - (intOf s).toNat)
            case atStart => exact ⟨0, by omega, rfl, by omega, hE⟩
            case round =>
              clear hE
              obtain ⟨d, hd, rfl, hno, hE⟩ := hrel
              have Hno2 := Lib.hid hno
              clear hno
              by_cases hltd : d < ord l
              · have hbx := hb1 _ hE
                have d24 : d < 24 := by omega
                have m24 : m ≤ 24 := by omega
                have p1 := prSet_bd Hgr.out (s := 0) (by omega) d m
                go_wp2_with fail
                refine (l10Progression0_any _ _ d m _ (hg1 _ hE) Hgr d24 m24).mono ?_
                rintro e0 w3 ⟨rfl, hE'⟩
                replace hE := hE.trans hE'
                clear hE' hbx
                go_wp2_with fail
                go_loopw [12] (fun s wr => ∃ e : Nat, e ≤ ord l ∧ s = .int .i64 e ∧ (∀ e', e' < e → bxAt l n m d e' = false) ∧ Ext w2 wr) (fun s _ => ord l - (intOf s).toNat)
                case atStart => exact ⟨0, by omega, rfl, by omega, hE⟩
                case round =>
                  clear hE
                  obtain ⟨e, he, rfl, hno, hE⟩ := hrel
                  have Hno3 := Lib.hid hno
                  clear hno
                  by_cases hlte : e < ord l
                  · have hbu := fun U => hb1 _ (hE.trans (lat_ext wr U))
                    have hgr' : ∀ W, Ext wr W → Ints W v l := fun W hW => hg1 W (hE.trans hW)
                    have p2 := prSet_bd Hgr.out (s := 0) (by omega) e q
                    have hB := sumF_bd Hgr.out (prSet l 0 d m) (prSet l 0 e q)
                    have HB : Hid (bxS l n m d e = sumF l (prSet l 0 d m) (prSet l 0 e q)) := Lib.hid (by unfold bxS; rw [Hq.out])
                    have hE1 := hE
                    clear hE
                    have hE := Ext.refl wr
                    have e24 : e < 24 := by omega
                    have hq1 := Hq1.out
                    go_wp2_with fail
                    (refine wp_region_lat (wr) (by kernel_rfl) (by kernel_rfl) hE ?_); (repeat (go_big_quiet_step (first | (go_at_call 103; with_reducible exact Calls.lat (l10Progression0_any _ _ e q _ (hgr' _ (lat_ext wr _)) Hgr e24 hq24)) | (go_at_call 31; with_reducible exact Calls.lat (l4Sum_any _ _ _ _ _ (hgr' _ (lat_ext wr _)) Hgr p1 p2))))); (refine wpQuiet_nil ?_); (intro W hE'); (replace hE := lat_of hE'); (clear hE')
                    replace hE := hE1.trans hE
                    rw [← HB.out] at hB
                    rw [← HB.out]
                    clear hE1 hgr' hbu p2 hq1
                    by_cases hc : cnt (bxS l n m d e) = cnt n
                    · have hci : ((cnt (bxS l n m d e) : Int) != (cnt n : Int)) = false := by rw [hc]; simp
                      have Hc := Lib.hid hc
                      clear hc
                      generalize hBB : bxS l n m d e = B at hB HB Hc hci ⊢
                      have HBB := Lib.hid hBB
                      clear hBB
                      go_wp2_with (first | (go_at_call 36; refine (l3Bits_any _ (hB) _).mono ?_; rintro e w' ⟨rfl, rfl⟩))
                      go_loopw [14] (fun s wr => ∃ x : Nat, x ≤ ord l ∧ s = .int .i64 x ∧ (∀ x', x' < x → ¬ shiftF l B x' = n) ∧ Ext w2 wr) (fun s _ => ord l - (intOf s).toNat)
                      case atStart => exact ⟨0, by omega, rfl, by omega, hE⟩
                      case round =>
                        clear hE
                        obtain ⟨x, hx, rfl, hno, hE⟩ := hrel
                        have Hno4 := Lib.hid hno
                        clear hno
                        by_cases hltx : x < ord l
                        · have hbx := hb1 _ hE
                          have x24 : x < 24 := by omega
                          by_cases hsx : shiftF l B x = n
                          · have hsi : ((shiftF l B x : Int) == (n : Int)) = true := by rw [hsx]; simp
                            have Hz := Lib.hid (bxN_hit hm1 Hlt.out Hmd.out hltd hlte hltx (by rw [HBB.out]; exact Hc.out) (by rw [HBB.out]; exact hsx))
                            clear hsx
                            go_wp2_with fail
                            refine (l3Shift_any _ _ _ _ _ (hg1 _ hE) Hgr hB x24).mono ?_
                            rintro e' wr ⟨rfl, hE'⟩
                            replace hE := hE.trans hE'
                            clear hE' hbx
                            have hq1 := Hq1.out
                            have hm0n : ¬ m = 0 := fun e => Nat.lt_irrefl 0 (by rw [e] at hm1; exact hm1)
                            have hm0' : ¬ (m : Int) = 0 := fun e => hm0n (Int.ofNat_eq_zero.1 e)
                            have hD := (Ext.refl wr).drew
                            go_wp2_with fail
                            first | (go_region_held3 (fun W => Ext wr W) (exact (by repeat (first | assumption | exact Ext.refl _ | (apply And.left; assumption) | apply Ext.drew | apply Ext.alloc))) (first | fail)) | (fail "the region that returns")
                            all_goals go_wp2_with fail
                            all_goals
                              first
                              | (refine bodyPost_ret (v := .tuple #[.slice (some ⟨wr.heap.size, 0, none⟩) 2 2, .slice (some ⟨wr.heap.size + 1, 0, none⟩) 2 2, .bool true]) ?_ rfl ⟨_, _, by rw [Hs.out, Hz.out], eW.trans (hE.trans (by repeat (first | assumption | exact Ext.refl _ | (apply And.left; assumption) | apply Ext.drew | apply Ext.alloc)))⟩; (simp [results, Tryz.results86, go_sem]; done))
                              | (refine bodyPost_ret (v := .tuple #[.slice (some ⟨wr.heap.size + 1, 0, none⟩) 2 2, .slice (some ⟨wr.heap.size, 0, none⟩) 2 2, .bool true]) ?_ rfl ⟨_, _, by rw [Hs.out, Hz.out], eW.trans (hE.trans (by repeat (first | assumption | exact Ext.refl _ | (apply And.left; assumption) | apply Ext.drew | apply Ext.alloc)))⟩; (simp [results, Tryz.results86, go_sem]; done))
                          · have Hsx := Lib.hid hsx
                            have hsi : ((shiftF l B x : Int) == (n : Int)) = false := by simp; omega
                            clear hsx
                            go_wp2_with fail
                            refine (l3Shift_any _ _ _ _ _ (hg1 _ hE) Hgr hB x24).mono ?_
                            rintro e' wr ⟨rfl, hE'⟩
                            replace hE := hE.trans hE'
                            clear hE' hbx
                            go_wp2_with fail
                            go_roundw
                            case rel => exact ⟨x + 1, by omega, by go_num, fun x' h => by by_cases q : x' = x; (subst q; exact Hsx.out); exact Hno4.out x' (by omega), hE⟩
                            case measure => (simp [intOf]; omega)
                        · have hxl : x = ord l := by omega
                          have Hn : Hid (bxAt l n m d e = false) := Lib.hid (bxAt_no fun x' h => by rw [HBB.out]; exact Hno4.out x' (by omega))
                          go_wp2_with fail
                          go_roundw
                          case rel => exact ⟨e + 1, by omega, by go_num, fun e' h => by by_cases q : e' = e; (subst q; exact Hn.out); exact Hno3.out e' (by omega), hE⟩
                          case measure => (simp [intOf]; omega)
                    · have hci : ((cnt (bxS l n m d e) : Int) != (cnt n : Int)) = true := by simp; omega
                      have Hn := Lib.hid (bxAt_cnt hc)
                      clear hc
                      generalize bxS l n m d e = B at hB HB hci ⊢
                      go_wp2_with (first | (go_at_call 36; refine (l3Bits_any _ (hB) _).mono ?_; rintro e w' ⟨rfl, rfl⟩))
                      go_roundw
                      case rel => exact ⟨e + 1, by omega, by go_num, fun e' h => by by_cases q : e' = e; (subst q; exact Hn.out); exact Hno3.out e' (by omega), hE⟩
                      case measure => (simp [intOf]; omega)
                  · have hel : e = ord l := by omega
                    go_wp2_with fail
                    go_roundw
                    case rel => exact ⟨d + 1, by omega, by go_num, fun d' h e' h' => by by_cases q : d' = d; (subst q; exact Hno3.out e' (by omega)); exact Hno2.out d' (by omega) e' h', hE⟩
                    case measure => (simp [intOf]; omega)
              · have hdl : d = ord l := by omega
                have Hn : Hid (bxM l n m = false) := Lib.hid (bxM_no fun d' h e' h' => Hno2.out d' (by omega) e' h')
                go_wp2_with fail
                go_roundw
                case rel => exact ⟨m + 1, by omega, by omega, by go_num, fun m' h h' => by by_cases q : m' = m; (subst q; exact Hn.out); exact Hno1.out m' h (by omega), hE⟩
                case measure => (simp [intOf]; omega)
          · have hmod : ((cnt n : Int) % (m : Int) != 0) = true := by rw [← Int.natCast_emod]; simp; omega
            have hm0 : ((m : Int) == 0) = false := by simp; omega
            have Hn := Lib.hid (bxM_mod (l := l) hmd)
            clear hmd
            go_wp2_with fail
            go_roundw
            case rel => exact ⟨m + 1, by omega, by omega, by go_num, fun m' h h' => by by_cases q : m' = m; (subst q; exact Hn.out); exact Hno1.out m' h (by omega), hE⟩
            case measure => (simp [intOf]; omega)
        · have hlti : ¬ (m : Int) * (m : Int) ≤ (cnt n : Int) := by rw [← Int.natCast_mul]; omega
          have Hz := Lib.hid (bxN_no Hno1.out hlt)
          clear hlt
          go_wp2_with fail
          exact bodyPost_ret (v := .tuple #[.slice (some ⟨wr.heap.size, 0, none⟩) 0 0, .slice (some ⟨wr.heap.size + 1, 0, none⟩) 0 0, .bool false]) (by simp [results, Tryz.results86, go_sem]) rfl ⟨_, _, by rw [Hs.out, Hz.out], eW.trans ((hE.alloc _).alloc _)⟩

theorem IsBox_any (v : Value) (l : List Int) (a : Int) (w : World) (h : Ints w v l) :
    Calls Tryz.prog 43 #[.agg #[v], .int .i64 a] w fun e w' => e = .returned (.bool (boxB l a)) ∧ Ext w w' := by
  obtain ⟨wb, hwb⟩ : ∃ wb, wb = w.alloc (.cells #[v] 26) := ⟨_, rfl⟩
  have hE0 := (Ext.refl w).alloc (.cells #[v] 26)
  have hb := box_cell w v 26
  rw [← hwb] at hE0 hb
  have hg : ∀ W, Ext wb W → Ints W v l := fun W hW => h.ext (hE0.trans hW)
  have hE := Ext.refl wb
  have Hsz : Hid (w.heap.size + 1 = wb.heap.size) := Lib.hid (by rw [hwb]; simp [go_sem])
  have Hwb := Lib.hid hwb
  clear hwb h
  have hbx := hb wb hE
  go_enter Tryz.func43, Tryz.ntmps43
  go_wp2_with fail
  rw [← Hwb.out]
  refine (FindBox_any _ _ _ _ (hg _ hE)).mono ?_
  rintro e w1 ⟨p, q, rfl, hE1⟩
  go_wp2_with fail
  go_ret
  exact ⟨rfl, hE0.trans hE1⟩
theorem IsBox_val (v : Value) (l : List Int) (a : Int) (w : World) (h : Ints w v l) {c : Bool} (hc : boxB l a = c) :
    Calls Tryz.prog 43 #[.agg #[v], .int .i64 a] w fun e w' => e = .returned (.bool c) ∧ Ext w w' := by subst hc; exact IsBox_any v l a w h
theorem sIsBox_any (v : Value) (l : List Int) (a : Int) (w : World) (h : Ints w v l) :
    Calls Tryz.prog 49 #[.agg #[v], .int .i64 a] w fun e w' => e = .returned (.bool (boxB l a)) ∧ Ext w w' := by
  obtain ⟨wb, hwb⟩ : ∃ wb, wb = w.alloc (.cells #[v] 26) := ⟨_, rfl⟩
  have hE0 := (Ext.refl w).alloc (.cells #[v] 26)
  have hb := box_cell w v 26
  rw [← hwb] at hE0 hb
  have hg : ∀ W, Ext wb W → Ints W v l := fun W hW => h.ext (hE0.trans hW)
  have hE := Ext.refl wb
  have Hsz : Hid (w.heap.size + 1 = wb.heap.size) := Lib.hid (by rw [hwb]; simp [go_sem])
  have Hwb := Lib.hid hwb
  clear hwb h
  have hbx := hb wb hE
  go_enter Tryz.func49, Tryz.ntmps49
  go_wp2_with fail
  rw [← Hwb.out]
  refine (sFindBox_any _ _ _ _ (hg _ hE)).mono ?_
  rintro e w1 ⟨p, q, rfl, hE1⟩
  go_wp2_with fail
  go_ret
  exact ⟨rfl, hE0.trans hE1⟩
theorem sIsBox_val (v : Value) (l : List Int) (a : Int) (w : World) (h : Ints w v l) {c : Bool} (hc : boxB l a = c) :
    Calls Tryz.prog 49 #[.agg #[v], .int .i64 a] w fun e w' => e = .returned (.bool c) ∧ Ext w w' := by subst hc; exact sIsBox_any v l a w h
end Go.Zz
