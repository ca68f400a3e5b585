/- Sets of Sidon. -/
import Derived.Test.YtgmbjfjihhdenaaGr13
import Derived.Test.YtgmbjfjihhdenaaGr2
import Derived.Test.YtgmbjfjihhdenaaGr10
import Derived.Test.YtgmbjfjihhdenaaGr8
import Derived.Test.YtgmbjfjihhdenaaGr5
import Derived.Test.YtgmbjfjihhdenaaGr12
import Derived.Test.YtgmbjfjihhdenaaGr11
namespace Go.Zz
open Go.RowKit Go.Proofs
set_option maxHeartbeats 2000000
set_option maxRecDepth 20000

theorem Ints.natc {w : World} {v : Value} {L : List Nat} (h : Ints w v (castL L)) :
    ∃ (ao : Option Addr) (c : Nat) (adr : Nat → Addr), v = .slice ao L.length c ∧ L.length ≤ c ∧
      (∀ i, i < L.length → ao = some (adr 0) ∧ adr i = (adr 0).add i) ∧
      (∀ i W, i < L.length → Ext w W → W.cell? (adr i) = some (.int .i64 (nthN L i : Int))) := by
  have hc : ∀ ao n c, v = .slice ao n c → n ≤ c := by
    obtain ⟨ao, c, rfl, h1, _⟩ := h
    intro ao' n' c' e
    simp only [Value.slice.injEq] at e
    omega
  obtain ⟨ao, c, adr, rfl, h2, h3⟩ := h.nats
  exact ⟨ao, c, adr, rfl, hc _ _ _ rfl, h2, h3⟩
theorem Addr.add_add' (a : Addr) (i j : Nat) : (a.add i).add j = a.add (i + j) := by
  unfold Addr.add
  by_cases hi : i = 0 <;> by_cases hj : j = 0 <;> simp [hi, hj, Nat.add_assoc]
theorem IsSidon_any (v : Value) (l : List Int) (a : Int) (w : World) (h : Ints w v l) :
    Calls Try.prog 198 #[.agg #[v], .int .i64 a] w fun e w' => e = .returned (.bool (sidB l a)) ∧ Ext w w' := by
  obtain ⟨wb, hwb⟩ : ∃ wb, wb = w.alloc (.cells #[v] 31) := ⟨_, rfl⟩
  have hE0 := (Ext.refl w).alloc (.cells #[v] 31)
  have hb := box_cell w v 31
  rw [← hwb] at hE0 hb
  have hg : ∀ W, Ext wb W → Ints W v l := fun W hW => h.ext (hE0.trans hW)
  have hE := Ext.refl wb
  have Hsz : Hid (w.heap.size + 1 = wb.heap.size) := Lib.hid (by rw [hwb]; simp [go_sem])
  have Hwb := Lib.hid hwb
  clear hwb h
  have hbx := hb wb hE
  cases hs : isSetB l a
  · have Hs := Lib.hid (sidB_no hs)
    go_enter Try.func198, Try.ntmps198
    go_wp2_with fail
    rw [← Hwb.out]
    go_wp2_with (first | (go_at_call 134; refine (IsSet_val _ _ _ _ (hg _ hE) (hs)).mono ?_; rintro e w' ⟨rfl, hE'⟩; replace hE := hE.trans hE'; clear hE'))
    go_ret
    exact ⟨ret_bool Hs.out.symm, hE0.trans hE⟩
  · obtain ⟨n, rfl, h1, h2, hgr⟩ := isSetB_nat hs
    have Hs := Lib.hid (sidB_yes hs)
    have Hgr := Lib.hid hgr
    clear hgr
    go_enter Try.func198, Try.ntmps198
    go_wp2_with fail
    rw [← Hwb.out]
    go_wp2_with (first | (go_at_call 134; refine (IsSet_val _ _ _ _ (hg _ hE) (hs)).mono ?_; rintro e w' ⟨rfl, hE'⟩; replace hE := hE.trans hE'; clear hE') | (go_at_call 169; refine (members_any n h2 _).mono ?_; rintro e w1 ⟨v1, rfl, hL, hE1⟩; obtain ⟨aoL, cL, adrL, rfl, hcap, hadrL, hcellL⟩ := hL.ints.natc; have hixL := ints_index (c := cL) elI szI hadrL))
    have hb1 : ∀ W, Ext w1 W → W.cell? ⟨w.heap.size, 0, none⟩ = some v := fun W hW => hb W (hE.trans (hE1.trans hW))
    have hg1 : ∀ W, Ext w1 W → Ints W v l := fun W hW => hg W (hE.trans (hE1.trans hW))
    have eW := hE0.trans (hE.trans hE1)
    have hall : ∀ y ∈ elems n, y < 24 := fun y hy => elems_lt hy
    have hlen := elems_len n
    clear hb hg hbx hE hE1 hL hs
    generalize elems n = L at hcellL hixL hall hlen Hs hcap hadrL ⊢
    have Hadr := Lib.hid hadrL
    clear hadrL
    have hE := Ext.refl w1
    have Hst := Lib.hid (SidTo.start l L)
    go_loopw [20, 5] (fun i s wr => ∃ k seen : Nat, k ≤ L.length ∧ seen < 2 ^ 24 ∧ i = .int .i64 k ∧ s = .int .i64 seen ∧ SidTo l L k k seen ∧ Ext w1 wr) (fun i _ _ => L.length - (intOf i).toNat)
    case atStart => exact ⟨0, 0, by omega, by omega, rfl, rfl, Hst.out, hE⟩
    case round =>
      clear hE Hst
      obtain ⟨k, seen, hk, hseen, rfl, rfl, hS, hE⟩ := hrel
      have HS := Lib.hid hS
      clear hS
      by_cases hlt : k < L.length
      · have hck := hcellL k _ hlt hE
        obtain ⟨M, hM⟩ : ∃ M, M = L.length - k := ⟨_, rfl⟩
        have HM : Hid (k + M = L.length) := Lib.hid (by omega)
        have hsub : L.length - k = M := hM.symm
        obtain ⟨rfl, -⟩ := Hadr.out k hlt
        have hak : (adrL 0).add k = adrL k := (Hadr.out k hlt).2.symm
        have hne : ¬ cL = k := by omega
        have hixk := ints_index (P := Try.prog) (t := 22) (ao := some (adrL k)) (n := M) (c := cL - k) (adr := fun t => adrL (k + t)) elI szI (fun t ht => ⟨rfl, by
          have q := HM.out
          show adrL (k + t) = (adrL (k + 0)).add t
          rw [(Hadr.out (k + t) (by omega)).2, Nat.add_zero, (Hadr.out k hlt).2, Addr.add_add']⟩)
        clear hM
        go_wp2_with fail
        clear hsub hak hne
        have hk24 := hall _ (nthN_mem hlt)
        go_loopw [29, 5] (fun i s wq => ∃ t sn : Nat, t ≤ M ∧ sn < 2 ^ 24 ∧ i = .int .i64 t ∧ s = .int .i64 sn ∧ SidTo l L k (k + t) sn ∧ Ext w1 wq) (fun i _ _ => M - (intOf i).toNat)
        case atStart => exact ⟨0, seen, by omega, hseen, rfl, rfl, HS.out, hE⟩
        case round =>
          clear hE HS hseen hck
          obtain ⟨t, sn, ht, hseen, rfl, rfl, hS, hE⟩ := hrel
          have HS := Lib.hid hS
          clear hS
          have hbx := hb1 _ hE
          by_cases hlt2 : t < M
          · have hkt : k + t < L.length := by have := HM.out; omega
            have hct := hcellL (k + t) _ hkt hE
            have hy24 := hall _ (nthN_mem hkt)
            obtain ⟨s, hs⟩ : ∃ s, s = addF l (nthN L k) (nthN L (k + t)) := ⟨_, rfl⟩
            have hs24 : s < 24 := by rw [hs]; exact addF_bd Hgr.out _ _
            have Hsd := Lib.hid hs
            clear hs
            have hs1 := ishl_one (n := s) (by omega)
            have hs2 := ior_pw hseen hs24
            cases hb : sn.testBit s
            · have Hn := Lib.hid (HS.out.next (Nat.le_add_right k t) hkt (by rw [← Hsd.out]; exact hb))
              go_wp2_with (first | (go_at_call 210; refine (add_any _ _ _ _ _ (hg1 _ hE) Hgr (by omega) (by omega)).mono ?_; rw [← Hsd.out]; rintro e w' ⟨rfl, hE'⟩; replace hE := hE.trans hE'; clear hE') | (go_at_call 129; refine (in_val sn s hseen (by omega) _ hb).mono ?_; rintro e w' ⟨rfl, rfl⟩))
              go_roundw
              case rel => exact ⟨t + 1, sn ||| 2 ^ s, by omega, Nat.or_lt_two_pow hseen (Nat.pow_lt_pow_right (by omega) hs24), by go_num, rfl, by rw [Hsd.out]; exact Hn.out, hE⟩
              case measure => (simp [intOf]; omega)
            · have Hz := Lib.hid (sidL_f (HS.out.hit (Nat.le_add_right k t) hkt (by rw [← Hsd.out]; exact hb)))
              go_wp2_with (first | (go_at_call 210; refine (add_any _ _ _ _ _ (hg1 _ hE) Hgr (by omega) (by omega)).mono ?_; rw [← Hsd.out]; rintro e w' ⟨rfl, hE'⟩; replace hE := hE.trans hE'; clear hE') | (go_at_call 129; refine (in_val sn s hseen (by omega) _ hb).mono ?_; rintro e w' ⟨rfl, rfl⟩))
              go_ret
              exact ⟨ret_bool (by rw [Hs.out, Hz.out]), eW.trans hE⟩
          · have htM : k + t = L.length := by have := HM.out; omega
            have Hn := Lib.hid (HS.out.row htM)
            go_wp2_with fail
            go_roundw
            case rel => exact ⟨k + 1, sn, by omega, hseen, by go_num, rfl, Hn.out, hE⟩
            case measure => (simp [intOf]; omega)
      · have hkl : k = L.length := by omega
        subst hkl
        have Hz := Lib.hid (sidL_t (HS.out.all rfl))
        go_wp2_with fail
        go_ret
        exact ⟨ret_bool (by rw [Hs.out, Hz.out]), eW.trans hE⟩
theorem IsSidon_val (v : Value) (l : List Int) (a : Int) (w : World) (h : Ints w v l) {c : Bool} (hc : sidB l a = c) :
    Calls Try.prog 198 #[.agg #[v], .int .i64 a] w fun e w' => e = .returned (.bool c) ∧ Ext w w' := by subst hc; exact IsSidon_any v l a w h
def Col (l : List Int) (L : List Nat) (i j k m : Nat) : Prop := ¬ (k = i ∧ m = j) ∧ addF l (nthN L i) (nthN L j) = addF l (nthN L k) (nthN L m)
theorem sid_of {l : List Int} {L : List Nat} (h : ∀ i j k m, i < L.length → i ≤ j → j < L.length → k ≤ i → k ≤ m → m < L.length → ¬ Col l L i j k m) : Sid l L := by
  intro p q r t h1 h2 h3 h4 e
  rcases Nat.le_total r p with c | c
  · have := h p q r t (by omega) h1 h2 c h3 h4
    by_cases d : r = p ∧ t = q
    · exact ⟨d.1.symm, d.2.symm⟩
    · exact absurd ⟨d, e⟩ this
  · have := h r t p q (by omega) h3 h4 c h1 h2
    by_cases d : p = r ∧ q = t
    · exact d
    · exact absurd ⟨d, e.symm⟩ this
theorem sid_hit {l : List Int} {L : List Nat} {i j k m : Nat} (h1 : i ≤ j) (h2 : j < L.length) (h3 : k ≤ m) (h4 : m < L.length) (h : Col l L i j k m) : ¬ Sid l L := fun hS => by
  obtain ⟨e1, e2⟩ := hS i j k m h1 h2 h3 h4 h.2
  exact h.1 ⟨e1.symm, e2.symm⟩
theorem l22Sidon_any (v : Value) (l : List Int) (a : Nat) (w : World) (h : Ints w v l) (Hgr : Hid (isGrp l = true)) (h2 : a < 2 ^ 24) :
    Calls Try.prog 227 #[.agg #[v], .int .i64 a] w fun e w' => e = .returned (.bool (sidL l (elems a))) ∧ Ext w w' := by
  obtain ⟨wb, hwb⟩ : ∃ wb, wb = w.alloc (.cells #[v] 31) := ⟨_, rfl⟩
  have hE0 := (Ext.refl w).alloc (.cells #[v] 31)
  have hb := box_cell w v 31
  rw [← hwb] at hE0 hb
  have hg : ∀ W, Ext wb W → Ints W v l := fun W hW => h.ext (hE0.trans hW)
  have hE := Ext.refl wb
  have Hsz : Hid (w.heap.size + 1 = wb.heap.size) := Lib.hid (by rw [hwb]; simp [go_sem])
  have Hwb := Lib.hid hwb
  clear hwb h
  go_enter Try.func227, Try.ntmps227
  go_wp2_with fail
  rw [← Hwb.out]
  refine (l3List_any a h2 _).mono ?_
  rintro e w1 ⟨v1, rfl, hL, hE1⟩
  obtain ⟨aoL, cL, adrL, rfl, hadrL, hcellL⟩ := hL.ints.nats
  have hixL := ints_index (c := cL) elI szI hadrL
  have hb1 : ∀ W, Ext w1 W → W.cell? ⟨w.heap.size, 0, none⟩ = some v := fun W hW => hb W (hE1.trans hW)
  have hg1 : ∀ W, Ext w1 W → Ints W v l := fun W hW => hg W (hE1.trans hW)
  have eW := hE0.trans hE1
  have hall : ∀ y ∈ elems a, y < 24 := fun y hy => elems_lt hy
  have hlen := elems_len a
  clear hb hg hE hE1 hL hadrL
  obtain ⟨R, HR1⟩ : ∃ R, Hid (R = sidL l (elems a)) := ⟨_, Lib.hid rfl⟩
  have HR2 := HR1
  generalize elems a = L at hcellL hixL hall hlen HR2 ⊢
  have hE := Ext.refl w1
  go_wp2_with fail
  go_loopw [6] (fun s wr => ∃ i : Nat, i ≤ L.length ∧ s = .int .i64 i ∧ (∀ i' j k m, i' < i → i' ≤ j → j < L.length → k ≤ i' → k ≤ m → m < L.length → ¬ Col l L i' j k m) ∧ Ext w1 wr) (fun s _ => L.length - (intOf s).toNat)
  case atStart => exact ⟨0, by omega, rfl, by omega, hE⟩
  case round =>
    clear hE
    obtain ⟨i, hi, rfl, hno, hE⟩ := hrel
    have Hno1 := Lib.hid hno
    clear hno
    by_cases hlt : i < L.length
    · go_wp2_with fail
      go_loopw [7] (fun s wr => ∃ j : Nat, i ≤ j ∧ j ≤ L.length ∧ s = .int .i64 j ∧ (∀ j' k m, i ≤ j' → j' < j → k ≤ i → k ≤ m → m < L.length → ¬ Col l L i j' k m) ∧ Ext w1 wr) (fun s _ => L.length - (intOf s).toNat)
      case atStart => exact ⟨i, by omega, by omega, rfl, by omega, hE⟩
      case round =>
        clear hE
        obtain ⟨j, hij, hj, rfl, hno, hE⟩ := hrel
        have Hno2 := Lib.hid hno
        clear hno
        by_cases hltj : j < L.length
        · go_wp2_with fail
          go_loopw [8] (fun s wr => ∃ k : Nat, k ≤ i + 1 ∧ s = .int .i64 k ∧ (∀ k' m, k' < k → k' ≤ m → m < L.length → ¬ Col l L i j k' m) ∧ Ext w1 wr) (fun s _ => i + 1 - (intOf s).toNat)
          case atStart => exact ⟨0, by omega, rfl, by omega, hE⟩
          case round =>
            clear hE
            obtain ⟨k, hk, rfl, hno, hE⟩ := hrel
            have Hno3 := Lib.hid hno
            clear hno
            by_cases hltk : k ≤ i
            · go_wp2_with fail
              go_loopw [9] (fun s wr => ∃ m : Nat, k ≤ m ∧ m ≤ L.length ∧ s = .int .i64 m ∧ (∀ m', k ≤ m' → m' < m → ¬ Col l L i j k m') ∧ Ext w1 wr) (fun s _ => L.length - (intOf s).toNat)
              case atStart => exact ⟨k, by omega, by omega, rfl, by omega, hE⟩
              case round =>
                clear hE
                obtain ⟨m, hkm, hm, rfl, hno, hE⟩ := hrel
                have Hno4 := Lib.hid hno
                clear hno
                by_cases hltm : m < L.length
                · have hci := fun U => hcellL i _ hlt (hE.trans (lat_ext wr U))
                  have hcj := fun U => hcellL j _ hltj (hE.trans (lat_ext wr U))
                  have hkl : k < L.length := by omega
                  have hck := fun U => hcellL k _ hkl (hE.trans (lat_ext wr U))
                  have hcm := fun U => hcellL m _ hltm (hE.trans (lat_ext wr U))
                  have hbu := fun U => hb1 _ (hE.trans (lat_ext wr U))
                  have hgr' : ∀ W, Ext wr W → Ints W v l := fun W hW => hg1 W (hE.trans hW)
                  have q1 := hall _ (nthN_mem hlt)
                  have q2 := hall _ (nthN_mem hltj)
                  have q3 := hall _ (nthN_mem hkl)
                  have q4 := hall _ (nthN_mem hltm)
                  have hE4 := hE
                  clear hE
                  have hE := Ext.refl wr
                  by_cases hp : k = i ∧ m = j
                  · have Hc : Hid (¬ Col l L i j k m) := Lib.hid (fun c => c.1 hp)
                    have b1 : ((k : Int) != (i : Int)) = false := by simp; omega
                    have b2 : ((m : Int) != (j : Int)) = false := by simp; omega
                    clear hp
                    go_wp2_with fail
                    (refine wp_region_lat (wr) (by kernel_rfl) (by kernel_rfl) hE ?_); (repeat (go_big_quiet_step (first | (go_at_call 162; exact Calls.lat (l2Add_any _ _ _ _ _ (hgr' _ (lat_ext wr _)) (Hgr) ((by omega)) ((by omega))))))); (refine wpQuiet_nil ?_); (intro W hE'); (replace hE := lat_of hE'); (clear hE')
                    go_wp2_with fail
                    go_roundw
                    case rel => exact ⟨m + 1, by omega, by omega, by go_num, fun m' h1 h2 => by by_cases e : m' = m; (subst e; exact Hc.out); exact Hno4.out m' h1 (by omega), hE4.trans hE⟩
                    case measure => (simp [intOf]; omega)
                  · by_cases hs : addF l (nthN L i) (nthN L j) = addF l (nthN L k) (nthN L m)
                    · have Hz := Lib.hid (sidL_f (sid_hit hij hltj hkm hltm ⟨hp, hs⟩))
                      have b3 : ((addF l (nthN L i) (nthN L j) : Int) == (addF l (nthN L k) (nthN L m) : Int)) = true := by rw [hs]; simp
                      by_cases hki : k = i
                      · have b1 : ((k : Int) != (i : Int)) = false := by simp; omega
                        have b2 : ((m : Int) != (j : Int)) = true := by simp; omega
                        clear hp hs hki
                        go_wp2_with fail
                        (refine wp_region_lat (wr) (by kernel_rfl) (by kernel_rfl) hE ?_); (repeat (go_big_quiet_step (first | (go_at_call 162; exact Calls.lat (l2Add_any _ _ _ _ _ (hgr' _ (lat_ext wr _)) (Hgr) ((by omega)) ((by omega))))))); (refine wpQuiet_nil ?_); (intro W hE'); (replace hE := lat_of hE'); (clear hE')
                        go_wp2_with fail
                        go_ret
                        exact ⟨ret_bool (by rw [← HR1.out, HR2.out, Hz.out]), eW.trans (hE4.trans hE)⟩
                      · have b1 : ((k : Int) != (i : Int)) = true := by simp; omega
                        clear hp hs hki
                        go_wp2_with fail
                        (refine wp_region_lat (wr) (by kernel_rfl) (by kernel_rfl) hE ?_); (repeat (go_big_quiet_step (first | (go_at_call 162; exact Calls.lat (l2Add_any _ _ _ _ _ (hgr' _ (lat_ext wr _)) (Hgr) ((by omega)) ((by omega))))))); (refine wpQuiet_nil ?_); (intro W hE'); (replace hE := lat_of hE'); (clear hE')
                        go_wp2_with fail
                        go_ret
                        exact ⟨ret_bool (by rw [← HR1.out, HR2.out, Hz.out]), eW.trans (hE4.trans hE)⟩
                    · have Hc : Hid (¬ Col l L i j k m) := Lib.hid (fun c => hs c.2)
                      have b3 : ((addF l (nthN L i) (nthN L j) : Int) == (addF l (nthN L k) (nthN L m) : Int)) = false := by simp; omega
                      by_cases hki : k = i
                      · have b1 : ((k : Int) != (i : Int)) = false := by simp; omega
                        have b2 : ((m : Int) != (j : Int)) = true := by simp; omega
                        clear hp hs hki
                        go_wp2_with fail
                        (refine wp_region_lat (wr) (by kernel_rfl) (by kernel_rfl) hE ?_); (repeat (go_big_quiet_step (first | (go_at_call 162; exact Calls.lat (l2Add_any _ _ _ _ _ (hgr' _ (lat_ext wr _)) (Hgr) ((by omega)) ((by omega))))))); (refine wpQuiet_nil ?_); (intro W hE'); (replace hE := lat_of hE'); (clear hE')
                        go_wp2_with fail
                        go_roundw
                        case rel => exact ⟨m + 1, by omega, by omega, by go_num, fun m' h1 h2 => by by_cases e : m' = m; (subst e; exact Hc.out); exact Hno4.out m' h1 (by omega), hE4.trans hE⟩
                        case measure => (simp [intOf]; omega)
                      · have b1 : ((k : Int) != (i : Int)) = true := by simp; omega
                        clear hp hs hki
                        go_wp2_with fail
                        (refine wp_region_lat (wr) (by kernel_rfl) (by kernel_rfl) hE ?_); (repeat (go_big_quiet_step (first | (go_at_call 162; exact Calls.lat (l2Add_any _ _ _ _ _ (hgr' _ (lat_ext wr _)) (Hgr) ((by omega)) ((by omega))))))); (refine wpQuiet_nil ?_); (intro W hE'); (replace hE := lat_of hE'); (clear hE')
                        go_wp2_with fail
                        go_roundw
                        case rel => exact ⟨m + 1, by omega, by omega, by go_num, fun m' h1 h2 => by by_cases e : m' = m; (subst e; exact Hc.out); exact Hno4.out m' h1 (by omega), hE4.trans hE⟩
                        case measure => (simp [intOf]; omega)
                · have hml : m = L.length := by omega
                  go_wp2_with fail
                  go_roundw
                  case rel => exact ⟨k + 1, by omega, by go_num, fun k' m' h1 h2 h3 => by by_cases e : k' = k; (subst e; exact Hno4.out m' h2 (by omega)); exact Hno3.out k' m' (by omega) h2 h3, hE⟩
                  case measure => (simp [intOf]; omega)
            · go_wp2_with fail
              go_roundw
              case rel => exact ⟨j + 1, by omega, by omega, by go_num, fun j' k' m' h1 h2 h3 h4 h5 => by by_cases e : j' = j; (subst e; exact Hno3.out k' m' (by omega) h4 h5); exact Hno2.out j' k' m' h1 (by omega) h3 h4 h5, hE⟩
              case measure => (simp [intOf]; omega)
        · go_wp2_with fail
          go_roundw
          case rel => exact ⟨i + 1, by omega, by go_num, fun i' j' k' m' h1 h2 h3 h4 h5 h6 => by by_cases e : i' = i; (subst e; exact Hno2.out j' k' m' h2 (by omega) h4 h5 h6); exact Hno1.out i' j' k' m' (by omega) h2 h3 h4 h5 h6, hE⟩
          case measure => (simp [intOf]; omega)
    · have hil : i = L.length := by omega
      have Hz := Lib.hid (sidL_t (sid_of (l := l) (L := L) fun i' j' k' m' h1 => Hno1.out i' j' k' m' (by omega)))
      go_wp2_with fail
      go_ret
      exact ⟨ret_bool (by rw [← HR1.out, HR2.out, Hz.out]), eW.trans hE⟩
end Go.Zz

/- Two results of which the second alone is told. -/
namespace Go.Zz
open Go.RowKit
/-- e gives two values, the second of which is b -/
def TB (b : Bool) (e : Ending) : Prop := ∃ v, e = .returned (.tuple #[v, .bool b])
theorem TB.mk (v : Value) (b : Bool) : TB b (.returned (.tuple #[v, .bool b])) := ⟨v, rfl⟩
end Go.Zz

/- Taking the terms of a part out: the reference. -/
namespace Go.Zz
open Go.RowKit Go.Proofs
set_option maxHeartbeats 2000000
set_option maxRecDepth 8000

/-- l[k:] -/
def tailV (ao : Option Addr) (n c k : Nat) : Value := .slice (if c = k then ao else ao.map (·.add k)) (n - k) (c - k)
theorem run_cutFrom {P : Program} {t : TypeId} (ht : P.underlying t = some (.slice (P.elem t))) (hs : ∀ w, (sizeOf (P.elem t)).run P w = .ok 1 w) (ao : Option Addr) (n c : Nat) (k : Int) (k0 : 0 ≤ k) (hk : k ≤ n) (W : World) :
    (Instr.slice t (.slice ao n c) (some (.int .i64 k)) none none).run P W = .ok (tailV ao n c k.toNat) W := by
  rw [run_slice_l (ht := ht) (h0 := k0) (h1 := hk), hs]
  simp [Result.andThen, sliced, tailV]
theorem run_cutFromAt {P : Program} {t : TypeId} (ht : P.underlying t = some (.slice (P.elem t))) (hs : ∀ w, (sizeOf (P.elem t)).run P w = .ok 1 w) (ao : Option Addr) (n c : Nat) (k : Int) (k0 : 0 ≤ k) (hk : k ≤ n) (W : World) :
    (Instr.sliceAt t (.slice ao n c) (some (.int .i64 k)) none none).run P W = .ok (tailV ao n c k.toNat) W := by
  rw [run_sliceAt_slice (h := ht), run_cutFrom ht hs ao n c k k0 hk]
theorem Ints.drop {w : World} {ao : Option Addr} {n c : Nat} {l : List Int} (h : Ints w (.slice ao n c) l) {k : Nat} (hk : k ≤ l.length) : Ints w (tailV ao n c k) (l.drop k) := by
  obtain ⟨ao', c', hv, h1, h2, h3⟩ := h
  simp only [Value.slice.injEq] at hv
  obtain ⟨rfl, rfl, rfl⟩ := hv
  have hl : (l.drop k).length = l.length - k := List.length_drop
  refine ⟨_, c - k, by rw [hl]; rfl, by rw [hl]; omega, by rw [hl]; omega, fun i hi => ?_⟩
  rw [hl] at hi
  obtain ⟨a, rfl, hc⟩ := h3 (k + i) (by omega)
  refine ⟨a.add k, by rw [if_neg (by omega)]; rfl, ?_⟩
  rw [show (a.add k).add i = a.add (k + i) by unfold Addr.add; by_cases h1 : k = 0 <;> by_cases h2 : i = 0 <;> simp [h1, h2, Nat.add_assoc], hc]
  simp [nth, List.getD, List.getElem?_drop]
/-- the list without one number, in memory of the call's own -/
def MiP (w0 : World) (T : List Int) (s : Value) (wx : World) : Prop := ∃ ao c, s = .slice ao T.length c ∧ Own 3 w0 wx (.slice ao T.length c) T ∧ Ext w0 wx
theorem MiP.of {w0 : World} {A B : List Int} {s : Value} {wx : World} (h : OwnE 3 w0 w0 wx s (A ++ B)) (hE : Ext w0 wx) : MiP w0 (A ++ B) s wx := by
  have h2 := h.own (Ext.refl w0)
  obtain ⟨ao, c, rfl, -⟩ := h2.shape
  exact ⟨ao, c, rfl, h2, hE⟩
end Go.Zz

/- Triples in progression: both; sets without progressions of the program. -/
namespace Go.Zz
open Go.RowKit Go.Proofs
set_option maxHeartbeats 2000000
set_option maxRecDepth 4000

def apT (l : List Int) (L : List Nat) (i k j : Nat) : Bool := ((addF l (nthN L i) (nthN L k) : Nat) : Int) == ((addF l (nthN L j) (nthN L j) : Nat) : Int)
/-- n is 0 exactly where none of the triples of C is in progression -/
def ZT (l : List Int) (L : List Nat) (C : Nat → Nat → Nat → Prop) (n : Nat) : Prop := n = 0 ↔ ∀ i k j, C i k j → apT l L i k j = false
theorem ZT.congr {l : List Int} {L : List Nat} {C C' : Nat → Nat → Nat → Prop} {n : Nat} (h : ZT l L C n) (e : ∀ i k j, C i k j ↔ C' i k j) : ZT l L C' n :=
  h.trans ⟨fun H i k j hc => H i k j ((e i k j).2 hc), fun H i k j hc => H i k j ((e i k j).1 hc)⟩
theorem ZT.hit {l : List Int} {L : List Nat} {C C' : Nat → Nat → Nat → Prop} {n i k j : Nat} (ht : apT l L i k j = true) (hc : C' i k j) : ZT l L C' (n + 1) :=
  ⟨fun e => by omega, fun H => by have := H i k j hc; rw [ht] at this; cases this⟩
theorem ZT.miss {l : List Int} {L : List Nat} {C C' : Nat → Nat → Nat → Prop} {n i k j : Nat} (h : ZT l L C n) (ht : apT l L i k j = false) (e : ∀ a b c, C' a b c ↔ C a b c ∨ (a = i ∧ b = k ∧ c = j)) : ZT l L C' n :=
  h.trans ⟨fun H a b c hc => by
    rcases (e a b c).1 hc with h | ⟨rfl, rfl, rfl⟩
    · exact H a b c h
    · exact ht, fun H a b c hc => H a b c ((e a b c).2 (Or.inl hc))⟩
def apL (l : List Int) (L : List Nat) : Bool := (List.range L.length).all fun i => (List.range L.length).all fun k => (List.range L.length).all fun j => decide (k ≤ i) || !apT l L i k j
theorem apL_iff {l : List Int} {L : List Nat} : apL l L = true ↔ ∀ i k j, (i < k ∧ k < L.length ∧ j < L.length) → apT l L i k j = false := by
  unfold apL
  simp only [List.all_eq_true, List.mem_range]
  constructor
  · rintro H i k j ⟨h1, h2, h3⟩
    have := H i (by omega) k h2 j h3
    simpa [show ¬ k ≤ i by omega] using this
  · intro H i h1 k h2 j h3
    by_cases hk : k ≤ i
    · simp [hk]
    · rw [H i k j ⟨by omega, h2, h3⟩]; simp
def apB (l : List Int) (a : Int) : Bool := isSetB l a && apL l (elems a.toNat)
theorem apB_no {l : List Int} {a : Int} (h : isSetB l a = false) : apB l a = false := by unfold apB; rw [h]; rfl
theorem apB_yes {l : List Int} {n : Nat} (h : isSetB l n = true) : apB l n = apL l (elems n) := by unfold apB; rw [h]; rfl
theorem ZT.all {l : List Int} {L : List Nat} {n : Nat} (h : ZT l L (fun i k j => i < k ∧ k < L.length ∧ j < L.length) n) : ((n : Int) == 0) = apL l L := by
  rw [Bool.eq_iff_iff, beq_iff_eq, apL_iff]
  exact ⟨fun e => h.1 (by omega), fun H => by have := h.2 H; omega⟩
/-- e gives a number that is 0 exactly where b -/
def ZN (b : Bool) (e : Ending) : Prop := ∃ n : Int, e = .returned (.int .i64 n) ∧ (n == 0) = b ∧ (n != 0) = !b
theorem ZN.mk {n : Int} {b : Bool} (h : (n == 0) = b) : ZN b (.returned (.int .i64 n)) := ⟨n, rfl, h, by rw [← h]; rfl⟩
theorem TriplesIn_any (v : Value) (l : List Int) (a : Int) (w : World) (h : Ints w v l) :
    Calls Try.prog 229 #[.agg #[v], .int .i64 a] w fun e w' => ZN (apB l a) e ∧ Ext w w' := by
  obtain ⟨wb, hwb⟩ : ∃ wb, wb = w.alloc (.cells #[v] 31) := ⟨_, rfl⟩
  have hE0 := (Ext.refl w).alloc (.cells #[v] 31)
  have hb := box_cell w v 31
  rw [← hwb] at hE0 hb
  have hg : ∀ W, Ext wb W → Ints W v l := fun W hW => h.ext (hE0.trans hW)
  have hE := Ext.refl wb
  have Hsz : Hid (w.heap.size + 1 = wb.heap.size) := Lib.hid (by rw [hwb]; simp [go_sem])
  have Hwb := Lib.hid hwb
  clear hwb h
  have hbx := hb wb hE
  cases hs : isSetB l a
  · have Hs := Lib.hid (apB_no hs)
    go_enter Try.func229, Try.ntmps229
    go_wp2_with fail
    rw [← Hwb.out]
    go_wp2_with (first | (go_at_call 134; refine (IsSet_val _ _ _ _ (hg _ hE) (hs)).mono ?_; rintro e w' ⟨rfl, hE'⟩; replace hE := hE.trans hE'; clear hE'))
    go_ret
    exact ⟨by rw [Hs.out]; exact ZN.mk (by decide), hE0.trans hE⟩
  · obtain ⟨n, rfl, h1, h2, hgr⟩ := isSetB_nat hs
    have Hs := Lib.hid (apB_yes hs)
    have Hgr := Lib.hid hgr
    clear hgr
    go_enter Try.func229, Try.ntmps229
    go_wp2_with fail
    rw [← Hwb.out]
    go_wp2_with (first | (go_at_call 134; refine (IsSet_val _ _ _ _ (hg _ hE) (hs)).mono ?_; rintro e w' ⟨rfl, hE'⟩; replace hE := hE.trans hE'; clear hE') | (go_at_call 169; refine (members_any n h2 _).mono ?_; rintro e w1 ⟨v1, rfl, hL, hE1⟩; obtain ⟨aoL, cL, adrL, rfl, hcap, hadrL, hcellL⟩ := hL.ints.natc; have hixL := ints_index (c := cL) elI szI hadrL))
    have hb1 : ∀ W, Ext w1 W → W.cell? ⟨w.heap.size, 0, none⟩ = some v := fun W hW => hb W (hE.trans (hE1.trans hW))
    have hg1 : ∀ W, Ext w1 W → Ints W v l := fun W hW => hg W (hE.trans (hE1.trans hW))
    have eW := hE0.trans (hE.trans hE1)
    have hall : ∀ y ∈ elems n, y < 24 := fun y hy => elems_lt hy
    have hlen := elems_len n
    have HLI := Lib.hid (fun W (hW : Ext w1 W) => (hL.ext hW).ints)
    clear hb hg hbx hE hE1 hL hs
    generalize elems n = L at hcellL hixL hall hlen Hs hcap hadrL HLI ⊢
    have HcL := Lib.hid hcellL
    clear hadrL hcellL
    have hE := Ext.refl w1
    go_loopw [5, 21] (fun nv iv wr => ∃ i z : Nat, i ≤ L.length ∧ iv = .int .i64 i ∧ nv = .int .i64 z ∧ z ≤ 576 * i ∧ Hid (ZT l L (fun a b c => a < i ∧ a < b ∧ b < L.length ∧ c < L.length) z) ∧ Ext w1 wr) (fun _ iv _ => L.length - (intOf iv).toNat)
    case atStart => exact ⟨0, 0, by omega, rfl, rfl, by omega, Lib.hid ⟨fun _ a b c hc => by omega, fun _ => rfl⟩, hE⟩
    case round =>
      clear hE
      obtain ⟨i, z, hi, rfl, rfl, hz, HZ, hE⟩ := hrel
      by_cases hlt : i < L.length
      · have hck := HcL.out i _ hlt hE
        have hix24 := hall _ (nthN_mem hlt)
        obtain ⟨X, hX⟩ : ∃ X, X = nthN L i := ⟨_, rfl⟩
        rw [← hX] at hck hix24
        have HX := Lib.hid hX
        clear hX
        have hfl := fun W => run_cutFrom (P := Try.prog) elI szI aoL L.length cL ((i : Int) + 1) (by omega) (by omega) W
        have hfa := fun W => run_cutFromAt (P := Try.prog) elI szI aoL L.length cL ((i : Int) + 1) (by omega) (by omega) W
        rw [show ((i : Int) + 1).toNat = i + 1 by omega] at hfl hfa
        obtain ⟨ao2, c2, adr2, hv2, hlen2, hadr2, hcell2⟩ := ((HLI.out _ hE).drop (k := i + 1) (by rw [castL_len]; omega)).op
        have hl2 : ((castL L).drop (i + 1)).length = L.length - (i + 1) := by rw [List.length_drop, castL_len]
        have hix2 := ints_index (c := c2) elI szI hadr2
        obtain ⟨M, hM⟩ : ∃ M, M = ((castL L).drop (i + 1)).length := ⟨_, rfl⟩
        rw [← hM] at hv2 hix2 hl2
        have HM : Hid (i + 1 + M = L.length) := Lib.hid (by omega)
        have hM24 : M ≤ 24 := by omega
        have hc2 : ∀ t W, t < M → Ext wr W → W.cell? (adr2 t) = some (.int .i64 (nthN L (i + 1 + t) : Int)) := fun t W ht hW => by
          rw [hcell2 t W (by rw [← hM]; exact ht) hW]
          simp [nth, List.getD, List.getElem?_drop, nthN, castL]
          cases L[i + 1 + t]? <;> rfl
        rw [hv2] at hfl hfa
        have Hc2 := Lib.hid hc2
        clear hv2 hcell2 hadr2 hl2 hM hlen2 hc2
        go_wp2_with fail
        rename World => wi
        go_loopw [5, 31] (fun nv kv wr => ∃ t z : Nat, t ≤ M ∧ kv = .int .i64 t ∧ nv = .int .i64 z ∧ z ≤ 576 * i + 24 * t ∧ Hid (ZT l L (fun a b c => (a < i ∧ a < b ∧ b < L.length ∧ c < L.length) ∨ (a = i ∧ i < b ∧ b < i + 1 + t ∧ c < L.length)) z) ∧ Ext w1 wr ∧ Ext wi wr) (fun _ kv _ => M - (intOf kv).toNat)
        case atStart => exact ⟨0, z, by omega, rfl, rfl, by omega, Lib.hid (HZ.out.congr fun a b c => by omega), hE, Ext.refl _⟩
        case round =>
          clear hE hck hz HZ
          obtain ⟨t, z, ht, rfl, rfl, hz, HZ, hE, hEi⟩ := hrel
          by_cases hlt2 : t < M
          · have hkt : i + 1 + t < L.length := by have := HM.out; omega
            have hct := Hc2.out t _ hlt2 hEi
            have hy24 := hall _ (nthN_mem hkt)
            obtain ⟨Y, hY⟩ : ∃ Y, Y = nthN L (i + 1 + t) := ⟨_, rfl⟩
            rw [← hY] at hct hy24
            have HY := Lib.hid hY
            clear hY
            go_wp2_with fail
            go_loopw [5, 37] (fun nv jv wr => ∃ j z : Nat, j ≤ L.length ∧ jv = .int .i64 j ∧ nv = .int .i64 z ∧ z ≤ 576 * i + 24 * t + j ∧ Hid (ZT l L (fun a b c => (a < i ∧ a < b ∧ b < L.length ∧ c < L.length) ∨ (a = i ∧ i < b ∧ b < i + 1 + t ∧ c < L.length) ∨ (a = i ∧ b = i + 1 + t ∧ c < j)) z) ∧ Ext w1 wr ∧ Ext wi wr) (fun _ jv _ => L.length - (intOf jv).toNat)
            case atStart => exact ⟨0, z, by omega, rfl, rfl, by omega, Lib.hid (HZ.out.congr fun a b c => by omega), hE, hEi⟩
            case round =>
              clear hE hct hz HZ hEi
              obtain ⟨j, z, hj, rfl, rfl, hz, HZ, hE, hEi⟩ := hrel
              by_cases hlt3 : j < L.length
              · have hcj := HcL.out j _ hlt3 hE
                have hz24 := hall _ (nthN_mem hlt3)
                obtain ⟨Z, hZ⟩ : ∃ Z, Z = nthN L j := ⟨_, rfl⟩
                rw [← hZ] at hcj hz24
                have HZd := Lib.hid hZ
                clear hZ
                rename World => wj
                have hbj := fun U => hb1 _ (hE.trans (lat_ext wj U))
                have cA := fun U => add_any v l X Y (Lat wj U) (hg1 _ (hE.trans (lat_ext wj U))) Hgr (by omega) (by omega)
                have cB := fun U => add_any v l Z Z (Lat wj U) (hg1 _ (hE.trans (lat_ext wj U))) Hgr (by omega) (by omega)
                have hEj := hE
                clear hE
                have hE := Ext.refl wj
                cases hq : (((addF l X Y : Nat) : Int) == ((addF l Z Z : Nat) : Int))
                · have Hap : Hid (apT l L i (i + 1 + t) j = false) := Lib.hid (by unfold apT; rw [← HX.out, ← HY.out, ← HZd.out]; exact hq)
                  go_wp2_with fail
                  (refine wp_region_lat (wj) (by kernel_rfl) (by kernel_rfl) hE ?_); (repeat (go_big_quiet_step (first | (go_at_call 210; first | with_reducible exact Calls.lat (cA _) | with_reducible exact Calls.lat (cB _))))); (refine wpQuiet_nil ?_); (intro W hE'); (replace hE := lat_of hE'); (clear hE')
                  go_wp2_with fail
                  go_roundw
                  case rel => exact ⟨j + 1, z, by omega, by go_num, rfl, by omega, Lib.hid (HZ.out.miss Hap.out fun a b c => by omega), hEj.trans hE, hEi.trans hE⟩
                  case measure => (simp [intOf]; omega)
                · have Hap : Hid (apT l L i (i + 1 + t) j = true) := Lib.hid (by unfold apT; rw [← HX.out, ← HY.out, ← HZd.out]; exact hq)
                  go_wp2_with fail
                  (refine wp_region_lat (wj) (by kernel_rfl) (by kernel_rfl) hE ?_); (repeat (go_big_quiet_step (first | (go_at_call 210; first | with_reducible exact Calls.lat (cA _) | with_reducible exact Calls.lat (cB _))))); (refine wpQuiet_nil ?_); (intro W hE'); (replace hE := lat_of hE'); (clear hE')
                  go_wp2_with fail
                  go_roundw
                  case rel => exact ⟨j + 1, z + 1, by omega, by go_num, by go_num, by omega, Lib.hid (ZT.hit (C := fun _ _ _ => True) Hap.out (by omega)), hEj.trans hE, hEi.trans hE⟩
                  case measure => (simp [intOf]; omega)
              · have hjl : j = L.length := by omega
                have Hn := Lib.hid (HZ.out.congr (C' := fun a b c => (a < i ∧ a < b ∧ b < L.length ∧ c < L.length) ∨ (a = i ∧ i < b ∧ b < i + 1 + (t + 1) ∧ c < L.length)) fun a b c => by omega)
                have hz2 : z ≤ 576 * i + 24 * (t + 1) := by omega
                clear hjl
                go_wp2_with fail
                go_roundw
                case rel => exact ⟨t + 1, z, by omega, by go_num, rfl, hz2, Hn, hE, hEi⟩
                case measure => (simp [intOf]; omega)
          · have Hn : Hid (ZT l L (fun a b c => a < i + 1 ∧ a < b ∧ b < L.length ∧ c < L.length) z) := Lib.hid (HZ.out.congr fun a b c => by have := HM.out; omega)
            have hz2 : z ≤ 576 * (i + 1) := by omega
            go_wp2_with fail
            go_roundw
            case rel => exact ⟨i + 1, z, by omega, by go_num, rfl, hz2, Hn, hE⟩
            case measure => (simp [intOf]; omega)
      · have hil : i = L.length := by omega
        have Hz : Hid (((z : Int) == 0) = apL l L) := Lib.hid (ZT.all (HZ.out.congr fun a b c => by omega))
        clear hil
        go_wp2_with fail
        go_ret
        exact ⟨by rw [Hs.out]; exact ZN.mk Hz.out, eW.trans hE⟩
theorem IsApFree_any (v : Value) (l : List Int) (a : Int) (w : World) (h : Ints w v l) :
    Calls Try.prog 200 #[.agg #[v], .int .i64 a] w fun e w' => e = .returned (.bool (apB l a)) ∧ Ext w w' := by
  obtain ⟨wb, hwb⟩ : ∃ wb, wb = w.alloc (.cells #[v] 31) := ⟨_, rfl⟩
  have hE0 := (Ext.refl w).alloc (.cells #[v] 31)
  have hb := box_cell w v 31
  rw [← hwb] at hE0 hb
  have hg : ∀ W, Ext wb W → Ints W v l := fun W hW => h.ext (hE0.trans hW)
  have hE := Ext.refl wb
  have Hsz : Hid (w.heap.size + 1 = wb.heap.size) := Lib.hid (by rw [hwb]; simp [go_sem])
  have Hwb := Lib.hid hwb
  clear hwb h
  have hbx := hb wb hE
  have cT := TriplesIn_any v l a wb (hg _ hE)
  go_enter Try.func200, Try.ntmps200
  go_wp2_with fail
  rw [← Hwb.out]
  refine cT.mono ?_
  rintro e w1 ⟨⟨n, rfl, hn, -⟩, hE1⟩
  go_wp2_with fail
  go_ret
  exact ⟨rfl, hE0.trans hE1⟩
end Go.Zz

/- first and LargestClique of the program. -/
namespace Go.Zz
open Go.RowKit Go.Proofs
set_option maxHeartbeats 2000000
set_option maxRecDepth 4000

theorem firstCl_fn (v : Value) (l : List Int) (P : Nat → Bool) (Hgr : Hid (isGrp l = true)) (w : World) (h : Ints w v l) (p1 p2 : Value)
    (HP : ∀ W b, Ext w W → b < 2 ^ 24 → Calls Try.prog 164 #[.int .i64 (b : Nat), p1, p2] W fun e w' => e = .returned (.bool (P b)) ∧ Ext W w') :
    Calls Try.prog 163 #[.agg #[v], .func (.func 164) #[] #[p1, p2]] w fun e w' => ∃ c, e = .returned (.tuple #[.int .i64 (fsS P (ord l) (ord l + 1) 0 0 : Nat), .int .i64 c]) ∧ Ext w w' := by
  have hob := ord_bd Hgr.out
  have hmf : ∀ (fn : Fn) (first cap : Array Value) (w : World), (Instr.makeFunc fn first cap).run Try.prog w = .ok (.func fn first cap) w := fun _ _ _ _ => rfl
  have He := Lib.hid (fsI_eq P (ord l) hob.2 (ord l + 1) 0 0 (0, -1) (by simp) (by omega))
  have HH := Lib.hid h
  have HPP := Lib.hid HP
  clear h HP
  go_enter Try.func163, Try.ntmps163
  go_wp2_with fail
  obtain ⟨w1, h1⟩ : ∃ x, x = w.alloc (.cells #[v] 31) := ⟨_, rfl⟩
  obtain ⟨w2, h2⟩ : ∃ x, x = w1.alloc (.cells #[.func (.func 164) #[] #[p1, p2]] 86) := ⟨_, rfl⟩
  obtain ⟨w3, h3⟩ : ∃ x, x = w2.alloc (.cells #[.int .i64 0] 3) := ⟨_, rfl⟩
  obtain ⟨w4, h4⟩ : ∃ x, x = w3.alloc (.cells #[.int .i64 (-1)] 3) := ⟨_, rfl⟩
  obtain ⟨w5, h5⟩ : ∃ x, x = w4.alloc (.cells #[.int .i64 0] 3) := ⟨_, rfl⟩
  obtain ⟨w6, h6⟩ : ∃ x, x = w5.alloc (.cells #[.func (.func 218) #[] #[.pointer (some ⟨w.heap.size + 1 + 1 + 1 + 1, 0, none⟩), .pointer (some ⟨w.heap.size + 1 + 1 + 1, 0, none⟩), .pointer (some ⟨w.heap.size + 1 + 1, 0, none⟩), .pointer (some ⟨w.heap.size, 0, none⟩), .pointer (some ⟨w.heap.size + 1, 0, none⟩), .pointer (some ⟨w.heap.size + 1 + 1 + 1 + 1 + 1, 0, none⟩)]] 125) := ⟨_, rfl⟩
  rw [← h1, ← h2, ← h3, ← h4, ← h5, ← h6]
  have s1 : w1.heap.size = w.heap.size + 1 := by rw [h1]; simp
  have s2 : w2.heap.size = w.heap.size + 1 + 1 := by rw [h2]; simp [s1]
  have s3 : w3.heap.size = w.heap.size + 1 + 1 + 1 := by rw [h3]; simp [s2]
  have s4 : w4.heap.size = w.heap.size + 1 + 1 + 1 + 1 := by rw [h4]; simp [s3]
  have s5 : w5.heap.size = w.heap.size + 1 + 1 + 1 + 1 + 1 := by rw [h5]; simp [s4]
  have e01 : Ext w w1 := by rw [h1]; exact (Ext.refl _).alloc _
  have e12 : Ext w1 w2 := by rw [h2]; exact (Ext.refl _).alloc _
  have e23 : Ext w2 w3 := by rw [h3]; exact (Ext.refl _).alloc _
  have e34 : Ext w3 w4 := by rw [h4]; exact (Ext.refl _).alloc _
  have e45 : Ext w4 w5 := by rw [h5]; exact (Ext.refl _).alloc _
  have e56 : Ext w5 w6 := by rw [h6]; exact (Ext.refl _).alloc _
  have B1 : Blk w1 w.heap.size 31 #[v] := by rw [h1]; exact Blk.new _ _ _
  have B2 : Blk w2 (w.heap.size + 1) 86 #[.func (.func 164) #[] #[p1, p2]] := by rw [h2, ← s1]; exact Blk.new _ _ _
  have B3 : Blk w3 (w.heap.size + 1 + 1) 3 #[.int .i64 ((0 : Nat) : Int)] := by rw [h3, ← s2]; exact Blk.new _ _ _
  have B4 : Blk w4 (w.heap.size + 1 + 1 + 1) 3 #[.int .i64 (-1)] := by rw [h4, ← s3]; exact Blk.new _ _ _
  have B5 : Blk w5 (w.heap.size + 1 + 1 + 1 + 1) 3 #[.int .i64 0] := by rw [h5, ← s4]; exact Blk.new _ _ _
  have B6 : Blk w6 (w.heap.size + 1 + 1 + 1 + 1 + 1) 125 #[.func (.func 218) #[] #[.pointer (some ⟨w.heap.size + 1 + 1 + 1 + 1, 0, none⟩), .pointer (some ⟨w.heap.size + 1 + 1 + 1, 0, none⟩), .pointer (some ⟨w.heap.size + 1 + 1, 0, none⟩), .pointer (some ⟨w.heap.size, 0, none⟩), .pointer (some ⟨w.heap.size + 1, 0, none⟩), .pointer (some ⟨w.heap.size + 1 + 1 + 1 + 1 + 1, 0, none⟩)]] := by rw [h6, ← s5]; exact Blk.new _ _ _
  have e02 := e01.trans e12
  have e26 := e23.trans (e34.trans (e45.trans e56))
  refine (firstCl_any v l P Hgr w2 (w.heap.size + 1 + 1 + 1 + 1) (w.heap.size + 1 + 1 + 1) (w.heap.size + 1 + 1) w.heap.size (w.heap.size + 1) (w.heap.size + 1 + 1 + 1 + 1 + 1) (by omega) (by omega) (by omega) (by omega) (by omega) (by omega) (by omega) (by omega) (by omega) p1 p2 (fun W hW => ((B1.ext e12).ext hW).cell (i := 0) rfl) (fun W hW => (B2.ext hW).cell (i := 0) rfl) (Lib.hid fun W hW => HH.out.ext (e02.trans hW)) (fun W b hW hb => HPP.out W b (e02.trans hW) hb) (ord l + 1) 0 0 0 w6 (0, -1) 0 (by omega) (by omega) (by decide) (by omega) (by simp) (by simp) e26 (B3.ext (e34.trans (e45.trans e56))) (B4.ext (e45.trans e56)) (B5.ext e56) B6).mono ?_
  rintro e w7 ⟨rfl, c7, hB7, hS7, hC7, hF7, -, -⟩
  have hc0 : (cnt 0) = 0 := cnt_zero
  have hfin : (fsI P (ord l) (ord l + 1) 0 0 0 (0, -1)).1 = fsS P (ord l) (ord l + 1) 0 0 := by
    have := He.out
    rw [hc0] at this
    rw [this, if_pos (by show (-1 : Int) < _; omega)]
  rw [hfin] at hB7
  have hx7 := hB7.cell (i := 0) (v := .int .i64 (fsS P (ord l) (ord l + 1) 0 0 : Nat)) rfl
  have hy7 := hC7.cell (i := 0) (v := .int .i64 c7) rfl
  have hE7 : Ext w w7 := hF7.ext (e02.trans e26) (by rintro k (rfl | rfl | rfl) <;> omega)
  have kx := fun U => cell_in hx7 _ (lat_ext w7 U)
  have ky := fun U => cell_in hy7 _ (lat_ext w7 U)
  have hE := Ext.refl w7
  clear hfin hc0 hx7 hy7 s1 s2 s3 s4 s5
  go_wp2_with fail
  (refine wp_region_lat (w7) (by kernel_rfl) (by kernel_rfl) hE ?_); (repeat (go_big_quiet_step (first | fail))); (refine wpQuiet_nil ?_); (intro W hE'); (replace hE := lat_of hE'); (clear hE')
  go_wp2_with fail
  exact bodyPost_ret (v := .tuple #[.int .i64 (fsS P (ord l) (ord l + 1) 0 0 : Nat), .int .i64 c7]) (by simp [results, Try.results163, go_sem]) rfl ⟨_, rfl, hE7.trans hE⟩
theorem lcq1_any (v : Value) (l : List Int) (a b : Nat) (Hgr : Hid (isGrp l = true)) (ha : a < 2 ^ 24) (hb : b < 2 ^ 24) (bG bA : Nat) (w : World) (hG : ∀ W, Ext w W → W.cell? ⟨bG, 0, none⟩ = some v) (hA : ∀ W, Ext w W → W.cell? ⟨bA, 0, none⟩ = some (.int .i64 a)) (h : Ints w v l) :
    Calls Try.prog 164 #[.int .i64 b, .pointer (some ⟨bG, 0, none⟩), .pointer (some ⟨bA, 0, none⟩)] w fun e w' => e = .returned (.bool (cliP l a b)) ∧ Ext w w' := by
  have kG := fun U => hG _ (lat_ext w U)
  have kA := fun U => hA _ (lat_ext w U)
  have hE := Ext.refl w
  have hD : sumF l b (oppF l b) < 2 ^ 24 := Nat.lt_of_lt_of_le (sumF_lt (isGrp_ords Hgr.out) _ _) (pow_ord Hgr.out)
  have h1 : a ||| 1 < 2 ^ 24 := Nat.or_lt_two_pow ha (by decide)
  have ho : ior (a : Int) 1 = ((a ||| 1 : Nat) : Int) := ior_nat (by omega) (by decide)
  have hn : iandn ((sumF l b (oppF l b) : Nat) : Int) ((a ||| 1 : Nat) : Int) = ((andN (sumF l b (oppF l b)) (a ||| 1) : Nat) : Int) := iandn_nat (by omega) (by omega)
  have He : Hid (cliP l a b = (((andN (sumF l b (oppF l b)) (a ||| 1) : Nat) : Int) == 0)) := Lib.hid (by
    unfold cliP; rw [Bool.eq_iff_iff, decide_eq_true_iff, beq_iff_eq]; omega)
  have hcD := fun U => difference_any v l b b (Lat w U) (h.ext (lat_ext w U)) Hgr hb hb
  clear hG hA h
  go_enter Try.func164, Try.ntmps164
  go_wp2_with fail
  (refine wp_region_lat (w) (by kernel_rfl) (by kernel_rfl) hE ?_); (repeat (go_big_quiet_step (first | (go_at_call 165; exact Calls.lat (hcD _))))); (refine wpQuiet_nil ?_); (intro W hE'); (replace hE := lat_of hE'); (clear hE')
  go_wp2_with fail
  go_ret
  exact ⟨ret_bool He.out.symm, hE⟩
theorem LargestClique_any (v : Value) (l : List Int) (a : Int) (w : World) (h : Ints w v l) :
    Calls Try.prog 71 #[.agg #[v], .int .i64 a] w fun e w' => e = .returned (.tuple #[.int .i64 (lcV l a), .bool (lcF l a)]) ∧ Ext w w' := by
  obtain ⟨w1, h1⟩ : ∃ x, x = w.alloc (.cells #[v] 31) := ⟨_, rfl⟩
  obtain ⟨w2, h2⟩ : ∃ x, x = w1.alloc (.cells #[.int .i64 a] 3) := ⟨_, rfl⟩
  have s1 : w1.heap.size = w.heap.size + 1 := by rw [h1]; simp
  have e01 : Ext w w1 := by rw [h1]; exact (Ext.refl _).alloc _
  have e12 : Ext w1 w2 := by rw [h2]; exact (Ext.refl _).alloc _
  have B1 : Blk w1 w.heap.size 31 #[v] := by rw [h1]; exact Blk.new _ _ _
  have B2 : Blk w2 (w.heap.size + 1) 3 #[.int .i64 a] := by rw [h2, ← s1]; exact Blk.new _ _ _
  have kG : ∀ W, Ext w2 W → W.cell? ⟨w.heap.size, 0, none⟩ = some v := fun W hW => ((B1.ext e12).ext hW).cell (i := 0) rfl
  have kA : ∀ W, Ext w2 W → W.cell? ⟨w.heap.size + 1, 0, none⟩ = some (.int .i64 a) := fun W hW => (B2.ext hW).cell (i := 0) rfl
  have hE0 := e01.trans e12
  have hg : ∀ W, Ext w2 W → Ints W v l := fun W hW => h.ext (hE0.trans hW)
  have hE := Ext.refl w2
  have H1 := Lib.hid h1
  have H2 := Lib.hid h2
  have hmf : ∀ (fn : Fn) (first cap : Array Value) (w : World), (Instr.makeFunc fn first cap).run Try.prog w = .ok (.func fn first cap) w := fun _ _ _ _ => rfl
  clear h1 h2 s1 e01 e12 B1 B2 h
  cases hc : connB l a
  · have Hs : Hid (lcF l a = false ∧ lcV l a = 0) := Lib.hid (by
      have e : lcF l a = false := by unfold lcF; rw [hc]; rfl
      exact ⟨e, by unfold lcV; rw [e]; rfl⟩)
    go_enter Try.func71, Try.ntmps71
    go_wp2_with fail
    rw [← H1.out, ← H2.out]
    go_wp2_with (first | (go_at_call 82; refine (IsConnection_val _ _ _ _ (hg _ hE) (hc)).mono ?_; rintro e w' ⟨rfl, hE'⟩; replace hE := hE.trans hE'; clear hE'))
    exact bodyPost_ret (v := .tuple #[.int .i64 0, .bool false]) (by simp [results, Try.results71, go_sem]) rfl ⟨by rw [Hs.out.1, Hs.out.2], hE0.trans hE⟩
  · obtain ⟨n, rfl, -, hn24, hgr⟩ := connB_nat hc
    have Hgr := Lib.hid hgr
    have hob := ord_bd hgr
    clear hgr
    by_cases ho : ord l ≤ 16
    · have Hs : Hid (lcF l n = true ∧ lcV l n = (fsS (cliP l n) (ord l) (ord l + 1) 0 0 : Nat)) := Lib.hid (by
        have e : lcF l n = true := by unfold lcF; rw [hc]; simpa using ho
        exact ⟨e, by unfold lcV; rw [e]; rfl⟩)
      have hcF := fun W (hW : Ext w2 W) => firstCl_fn v l (cliP l n) Hgr W (hg W hW) (.pointer (some ⟨w.heap.size, 0, none⟩)) (.pointer (some ⟨w.heap.size + 1, 0, none⟩)) (fun W' b hW' hb => lcq1_any v l n b Hgr hn24 hb w.heap.size (w.heap.size + 1) W' (fun X hX => kG X (hW.trans (hW'.trans hX))) (fun X hX => kA X (hW.trans (hW'.trans hX))) (hg W' (hW.trans hW')))
      go_enter Try.func71, Try.ntmps71
      go_wp2_with fail
      rw [← H1.out, ← H2.out]
      go_wp2_with (first | (go_at_call 82; refine (IsConnection_val _ _ _ _ (hg _ hE) (hc)).mono ?_; rintro e w' ⟨rfl, hE'⟩; replace hE := hE.trans hE'; clear hE') | (go_at_call 114; refine (OrderOf_grp _ _ _ (hg _ hE) (Hgr)).mono ?_; rintro e w' ⟨rfl, hE'⟩; replace hE := hE.trans hE'; clear hE') | (go_at_call 163; refine (hcF _ hE).mono ?_; rintro e w' ⟨c, rfl, hE'⟩; replace hE := hE.trans hE'; clear hE'))
      exact bodyPost_ret (v := .tuple #[.int .i64 (fsS (cliP l n) (ord l) (ord l + 1) 0 0 : Nat), .bool true]) (by simp [results, Try.results71, go_sem]) rfl ⟨by rw [Hs.out.1, Hs.out.2], hE0.trans hE⟩
    · have Hs : Hid (lcF l n = false ∧ lcV l n = 0) := Lib.hid (by
        have e : lcF l n = false := by unfold lcF; rw [hc]; simpa using ho
        exact ⟨e, by unfold lcV; rw [e]; rfl⟩)
      go_enter Try.func71, Try.ntmps71
      go_wp2_with fail
      rw [← H1.out, ← H2.out]
      go_wp2_with (first | (go_at_call 82; refine (IsConnection_val _ _ _ _ (hg _ hE) (hc)).mono ?_; rintro e w' ⟨rfl, hE'⟩; replace hE := hE.trans hE'; clear hE') | (go_at_call 114; refine (OrderOf_grp _ _ _ (hg _ hE) (Hgr)).mono ?_; rintro e w' ⟨rfl, hE'⟩; replace hE := hE.trans hE'; clear hE'))
      exact bodyPost_ret (v := .tuple #[.int .i64 0, .bool false]) (by simp [results, Try.results71, go_sem]) rfl ⟨by rw [Hs.out.1, Hs.out.2], hE0.trans hE⟩
end Go.Zz

/- Plain facts on the search for a first largest set: as the references go through the elements. No program is named here. -/
namespace Go.Zz
set_option linter.unusedVariables false

/-- the best one after the elements below k -/
def fsK (P : Nat → Bool) (N f b fr k : Nat) : Nat := (elemsTo (kidN P N b fr) k).foldl (fun (best x : Nat) => if cnt best < cnt (fsS P N f (b ||| 2 ^ x) (x + 1)) then fsS P N f (b ||| 2 ^ x) (x + 1) else best) b
theorem fsK_start (P : Nat → Bool) (N f b fr : Nat) : fsK P N f b fr fr = b := by
  unfold fsK; rw [elemsTo_nil0 fun i hi => by rw [kidN_bit]; simp; intro _ h; omega]; rfl
theorem fsK_end {P : Nat → Bool} {N : Nat} (hN : N ≤ 24) (f b fr : Nat) : fsS P N (f + 1) b fr = fsK P N f b fr N := by
  unfold fsK; rw [elemsTo_all hN (kidN_lt P N b fr)]; rfl
theorem fsK_no {P : Nat → Bool} {N f b fr k : Nat} (h : P (b ||| 2 ^ k) = false) : fsK P N f b fr (k + 1) = fsK P N f b fr k := by
  unfold fsK; rw [elemsTo_succ, show (kidN P N b fr).testBit k = false by rw [kidN_bit, h]; simp]; simp
theorem fsK_more {P : Nat → Bool} {N f b fr k : Nat} (h1 : k < N) (h2 : fr ≤ k) (h : P (b ||| 2 ^ k) = true) (hq : cnt (fsK P N f b fr k) < cnt (fsS P N f (b ||| 2 ^ k) (k + 1))) : fsK P N f b fr (k + 1) = fsS P N f (b ||| 2 ^ k) (k + 1) := by
  unfold fsK at hq ⊢
  rw [elemsTo_succ, show (kidN P N b fr).testBit k = true by rw [kidN_bit, h]; simp [h1, h2], if_pos rfl, List.foldl_append]
  simp only [List.foldl_cons, List.foldl_nil]
  rw [if_pos hq]
theorem fsK_less {P : Nat → Bool} {N f b fr k : Nat} (h1 : k < N) (h2 : fr ≤ k) (h : P (b ||| 2 ^ k) = true) (hq : ¬ cnt (fsK P N f b fr k) < cnt (fsS P N f (b ||| 2 ^ k) (k + 1))) : fsK P N f b fr (k + 1) = fsK P N f b fr k := by
  unfold fsK at hq ⊢
  rw [elemsTo_succ, show (kidN P N b fr).testBit k = true by rw [kidN_bit, h]; simp [h1, h2], if_pos rfl, List.foldl_append]
  simp only [List.foldl_cons, List.foldl_nil]
  rw [if_neg hq]
/-- the first element may be left out where it serves never -/
theorem fsS_from1 {P : Nat → Bool} {N f : Nat} (h : P 1 = false) : fsS P N (f + 1) 0 0 = fsS P N (f + 1) 0 1 := by
  have e : kidN P N 0 0 = kidN P N 0 1 := Nat.eq_of_testBit_eq fun i => by
    rw [kidN_bit, kidN_bit]
    by_cases hi : i = 0
    · subst hi; simp [h]
    · simp [show 1 ≤ i by omega]
  unfold fsS; rw [e]
/-- sets without sums -/
def freeP (l : List Int) (b : Nat) : Bool := isSetB l b && decide (sumF l b b &&& b = 0)
end Go.Zz
