/- All subgroups: those that three elements generate. No program is named here. -/
import Derived.Test.YtpjpfpmapdjnaaaGr15
import Derived.Test.YtpjpfpmapdjnaaaGr8
import Derived.Test.YtpjpfpmapdjnaaaGr7
import Derived.Test.YtpjpfpmapdjnaaaGr5
namespace Go.Zz

/-- a multiple of an element -/
def mulN (l : List Int) (x : Nat) : Nat → Nat
  | 0 => 0
  | q + 1 => addF l x (mulN l x q)
theorem ord_pos {l : List Int} (hO : Ords l) : 0 < ord l := by have := addF_lt l hO 0 0; omega
theorem mulN_lt {l : List Int} (hO : Ords l) (x : Nat) : ∀ q, mulN l x q < ord l
  | 0 => ord_pos hO
  | _ + 1 => addF_lt l hO _ _
/-- closed under sums and negatives, with zero; no bound on the order -/
def Clo (l : List Int) (H : Nat → Prop) : Prop := H 0 ∧ (∀ x y, x < ord l → y < ord l → H x → H y → H (addF l x y)) ∧ (∀ x, x < ord l → H x → H (negF l x))
theorem Clo.mul {l : List Int} (hO : Ords l) {H : Nat → Prop} (h : Clo l H) {x : Nat} (hx : x < ord l) (hH : H x) : ∀ q, H (mulN l x q)
  | 0 => h.1
  | q + 1 => h.2.1 _ _ hx (mulN_lt hO x q) hH (Clo.mul hO h hx hH q)
/-- sums of multiples of the members of a list -/
def spanN (l : List Int) : List Nat → Nat → Prop
  | [], h => h = 0
  | x :: X, h => ∃ q k, spanN l X k ∧ k < ord l ∧ h = addF l (mulN l x q) k
theorem addF_mul_emb {o : Int} {r : List Int} (ho : 1 ≤ o.toNat) (a b : Nat) : addF (o :: r) (o.toNat * a) (o.toNat * b) = o.toNat * addF r a b := by
  simp only [addF]
  rw [Nat.mul_mod_right, Nat.mul_mod_right, Nat.mul_div_cancel_left _ (by omega), Nat.mul_div_cancel_left _ (by omega)]
  simp
theorem mulN_emb {o : Int} {r : List Int} (ho : 1 ≤ o.toNat) (x : Nat) : ∀ q, mulN (o :: r) (o.toNat * x) q = o.toNat * mulN r x q
  | 0 => by simp [mulN]
  | q + 1 => by simp only [mulN]; rw [mulN_emb ho x q, addF_mul_emb ho]
theorem span_emb {o : Int} {r : List Int} (ho : 1 ≤ o.toNat) (h : Ords (o :: r)) : ∀ (X : List Nat) (k : Nat), spanN r X k → spanN (o :: r) (X.map (fun x => o.toNat * x)) (o.toNat * k)
  | [], k, e => by have e' : k = 0 := e; subst e'; rfl
  | x :: X, k, ⟨q, j, h1, h2, e⟩ => ⟨q, o.toNat * j, span_emb ho h X j h1, by rw [ord_cons h]; exact Nat.mul_lt_mul_of_pos_left h2 (by omega), by rw [mulN_emb ho, addF_mul_emb ho, e]⟩
theorem fst_add (o : Int) (r : List Int) (x y : Nat) (ho : 1 ≤ o.toNat) : addF (o :: r) x y % o.toNat = (x % o.toNat + y % o.toNat) % o.toNat := by
  simp only [addF]
  exact dig_mod (Nat.mod_lt _ (by omega))
theorem fst_mul (o : Int) (r : List Int) (x : Nat) (ho : 1 ≤ o.toNat) : ∀ q, mulN (o :: r) x q % o.toNat = (q * (x % o.toNat)) % o.toNat
  | 0 => by simp [mulN]
  | q + 1 => by
    show addF (o :: r) x (mulN (o :: r) x q) % o.toNat = _
    rw [fst_add o r _ _ ho, fst_mul o r x ho q, Nat.add_mod_mod, Nat.add_mul, Nat.one_mul, Nat.add_comm]
theorem fst_neg (o : Int) (r : List Int) (x : Nat) (ho : 1 ≤ o.toNat) : negF (o :: r) x % o.toNat = (o.toNat - x % o.toNat) % o.toNat := by
  simp only [negF]
  exact dig_mod (Nat.mod_lt _ (by omega))
/-- a least element of a property -/
theorem least {p : Nat → Prop} : ∀ n, p n → ∃ m, p m ∧ ∀ k, k < m → ¬ p k := by
  intro n
  induction n using Nat.strongRecOn with
  | _ n ih =>
    intro h
    by_cases e : ∃ k, k < n ∧ p k
    · obtain ⟨k, hk, hp⟩ := e; exact ih k hk hp
    · exact ⟨n, h, fun k hk hp => e ⟨k, hk, hp⟩⟩
theorem rank : ∀ (l : List Int), Ords l → ∀ H : Nat → Prop, Clo l H → ∃ X : List Nat, X.length = l.length ∧ (∀ x ∈ X, x < ord l ∧ H x) ∧ ∀ h, h < ord l → H h → spanN l X h
  | [], _, H, _ => ⟨[], rfl, fun _ h => (by cases h), fun h hl _ => (by rw [ord_nil] at hl; show h = 0; omega)⟩
  | o :: r, hO, H, hH => by
    have ho := hO.head
    have hr := hO.tail
    have hord := ord_cons hO
    -- the elements whose first place is zero
    have hK : Clo r (fun k => H (o.toNat * k)) := by
      refine ⟨by simpa using hH.1, fun x y hx hy h1 h2 => ?_, fun x hx h1 => ?_⟩
      · show H (o.toNat * addF r x y)
        rw [← addF_mul_emb ho]
        exact hH.2.1 _ _ (by rw [hord]; exact Nat.mul_lt_mul_of_pos_left hx (by omega)) (by rw [hord]; exact Nat.mul_lt_mul_of_pos_left hy (by omega)) h1 h2
      · show H (o.toNat * negF r x)
        have e : o.toNat * negF r x = negF (o :: r) (o.toNat * x) := by
          simp only [negF]
          rw [Nat.mul_mod_right, Nat.mul_div_cancel_left _ (by omega)]
          simp
        rw [e]
        exact hH.2.2 _ (by rw [hord]; exact Nat.mul_lt_mul_of_pos_left hx (by omega)) h1
    obtain ⟨X, hXl, hXm, hXs⟩ := rank r hr _ hK
    -- an element that takes the first place away
    have key : ∃ x0, x0 < ord (o :: r) ∧ H x0 ∧ ∀ h, h < ord (o :: r) → H h → ∃ q, addF (o :: r) h (negF (o :: r) (mulN (o :: r) x0 q)) % o.toNat = 0 := by
      by_cases hz : ∃ h, h < ord (o :: r) ∧ H h ∧ 0 < h % o.toNat
      · obtain ⟨h1, hl1, hH1, hp1⟩ := hz
        obtain ⟨d, ⟨x0, hx0, hHx, hd, hd0⟩, hmin⟩ := least (p := fun d => ∃ x, x < ord (o :: r) ∧ H x ∧ x % o.toNat = d ∧ 0 < d) (h1 % o.toNat) ⟨h1, hl1, hH1, rfl, hp1⟩
        refine ⟨x0, hx0, hHx, fun h hl hh => ⟨(h % o.toNat) / d, ?_⟩⟩
        have hm := mulN_lt hO x0 ((h % o.toNat) / d)
        have hHm := hH.mul hO hx0 hHx ((h % o.toNat) / d)
        have hdlt : d < o.toNat := by rw [← hd]; exact Nat.mod_lt _ (by omega)
        have hfst : addF (o :: r) h (negF (o :: r) (mulN (o :: r) x0 ((h % o.toNat) / d))) % o.toNat = (h % o.toNat) % d := by
          rw [fst_add o r _ _ ho, fst_neg o r _ ho, fst_mul o r x0 ho, hd]
          have h1 : h % o.toNat < o.toNat := Nat.mod_lt _ (by omega)
          have h2 : (h % o.toNat) / d * d ≤ h % o.toNat := Nat.div_mul_le_self _ _
          have h3 : (h % o.toNat) / d * d + (h % o.toNat) % d = h % o.toNat := by rw [Nat.mul_comm]; exact Nat.div_add_mod _ _
          have h4 : (h % o.toNat) % d < d := Nat.mod_lt _ hd0
          generalize (h % o.toNat) / d * d = A at h2 h3 ⊢
          generalize (h % o.toNat) % d = B at h3 h4 ⊢
          generalize h % o.toNat = C at h1 h2 h3 ⊢
          rw [Nat.mod_eq_of_lt (show A < o.toNat by omega)]
          by_cases hA : A = 0
          · subst hA
            simp
            rw [Nat.mod_eq_of_lt (by omega)]
            omega
          · rw [Nat.mod_eq_of_lt (show o.toNat - A < o.toNat by omega), show C + (o.toNat - A) = B + o.toNat by omega, Nat.add_mod_right, Nat.mod_eq_of_lt (by omega)]
        rw [hfst]
        by_cases hB : (h % o.toNat) % d = 0
        · exact hB
        · exact absurd ⟨_, addF_lt _ hO _ _, hH.2.1 _ _ hl (negF_lt _ hO _) hh (hH.2.2 _ hm hHm), hfst, by omega⟩ (hmin _ (Nat.mod_lt _ hd0))
      · refine ⟨0, ord_pos hO, hH.1, fun h hl hh => ⟨0, ?_⟩⟩
        have e : h % o.toNat = 0 := by
          false_or_by_contra; rename_i e; exact hz ⟨h, hl, hh, by omega⟩
        rw [fst_add o r _ _ ho, fst_neg o r _ ho, e]
        show (0 + (o.toNat - 0 % o.toNat) % o.toNat) % o.toNat = 0
        simp
    obtain ⟨x0, hx0, hHx, hq⟩ := key
    refine ⟨x0 :: X.map (fun x => o.toNat * x), by simp [hXl], fun x hx => ?_, fun h hl hh => ?_⟩
    · rcases List.mem_cons.1 hx with rfl | hx
      · exact ⟨hx0, hHx⟩
      · obtain ⟨y, hy, rfl⟩ := List.mem_map.1 hx
        have := hXm y hy
        exact ⟨by rw [hord]; exact Nat.mul_lt_mul_of_pos_left this.1 (by omega), this.2⟩
    · obtain ⟨q, hq0⟩ := hq h hl hh
      have hm := mulN_lt hO x0 q
      have hlt := addF_lt (o :: r) hO h (negF (o :: r) (mulN (o :: r) x0 q))
      have hHd : H (addF (o :: r) h (negF (o :: r) (mulN (o :: r) x0 q))) := hH.2.1 _ _ hl (negF_lt _ hO _) hh (hH.2.2 _ hm (hH.mul hO hx0 hHx q))
      have hback : addF (o :: r) (mulN (o :: r) x0 q) (addF (o :: r) h (negF (o :: r) (mulN (o :: r) x0 q))) = h := back hO hl
      generalize addF (o :: r) h (negF (o :: r) (mulN (o :: r) x0 q)) = D at hq0 hlt hHd hback
      have hD : D = o.toNat * (D / o.toNat) := by have := Nat.div_add_mod D o.toNat; omega
      have hDl : D / o.toNat < ord r := (Nat.div_lt_iff_lt_mul (by omega)).2 (by rw [Nat.mul_comm, ← hord]; exact hlt)
      have hs := hXs (D / o.toNat) hDl (by rw [← hD]; exact hHd)
      have hs2 := span_emb ho hO X _ hs
      rw [← hD] at hs2
      exact ⟨q, D, hs2, hlt, hback.symm⟩

/-! ### subgroups as sets -/
theorem gen_mul {l : List Int} (hg : isGrp l = true) {x : Nat} (hx : x < ord l) : ∀ q, (genF l (2 ^ x)).testBit (mulN l x q) = true
  | 0 => genF_zero l _
  | q + 1 => by
    have hob := ord_bd hg
    have h1 : (genF l (2 ^ x)).testBit x = true := by
      refine genF_sum hg (2 ^ x) x (testBit_sumF.2 ⟨0, x, by omega, genF_zero l _, by omega, by simp, addF_zero l (isGrp_ords hg) x hx⟩)
    exact genF_add hg h1 (gen_mul hg hx q)
theorem Cl.genF {l : List Int} (hg : isGrp l = true) (a : Nat) : Cl l (genF l a) :=
  ⟨genF_lt hg a, genF_zero l a, fun _ _ hx hy => genF_add hg hx (genF_neg hg hy)⟩
theorem Cl.sum {l : List Int} (hg : isGrp l = true) {A B : Nat} (hA : Cl l A) (hB : Cl l B) : Cl l (sumF l A B) := by
  have hO := isGrp_ords hg
  refine ⟨sumF_lt hO A B, ?_, fun x y hx hy => ?_⟩
  · have := sum_in (l := l) (show 0 < 24 by omega) (show 0 < 24 by omega) hA.2.1 hB.2.1
    rwa [addF_zero l hO 0 (ord_pos hO)] at this
  · obtain ⟨a, b, _, ha, _, hb, rfl⟩ := testBit_sumF.1 hx
    obtain ⟨c, d, _, hc, _, hd, rfl⟩ := testBit_sumF.1 hy
    have h1 := hA.2.2 a c ha hc
    have h2 := hB.2.2 b d hb hd
    have hob := ord_bd hg
    have := sum_in (l := l) (show difN l a c < 24 by have := dif_lt hO a c; omega) (show difN l b d < 24 by have := dif_lt hO b d; omega) h1 h2
    have e : difN l (addF l a b) (addF l c d) = addF l (difN l a c) (difN l b d) := by
      unfold difN
      rw [neg_add hO]
      simp only [addF_assoc l hO, addF_comm l, lc hO]
    rwa [e]
theorem Cl.clo {l : List Int} (hg : isGrp l = true) {H : Nat} (h : Cl l H) : Clo l (fun x => H.testBit x = true) :=
  ⟨h.2.1, fun _ _ _ _ h1 h2 => h.add hg h1 h2, fun _ _ h1 => h.neg hg h1⟩
theorem sub_gen {l : List Int} (hg : isGrp l = true) {H x : Nat} (h : Cl l H) (hx : H.testBit x = true) : Sub (genF l (2 ^ x)) H := by
  refine genF_least (fun i hi => ?_) (fun i hi => ?_)
  · have : i = 0 := by
      cases i with
      | zero => rfl
      | succ i => rw [Nat.testBit_succ] at hi; simp at hi
    subst this; exact h.2.1
  · obtain ⟨a, b, _, ha, _, hb, rfl⟩ := testBit_sumF.1 hi
    have : b = x := by
      rw [Nat.testBit_two_pow] at hb
      simpa using (of_decide_eq_true hb).symm
    subst this
    exact h.add hg ha hx
theorem sum_sub {l : List Int} (hg : isGrp l = true) {H A B : Nat} (h : Cl l H) (hA : Sub A H) (hB : Sub B H) : Sub (sumF l A B) H := fun i hi => by
  obtain ⟨a, b, _, ha, _, hb, rfl⟩ := testBit_sumF.1 hi
  exact h.add hg (hA a ha) (hB b hb)
/-- three elements generate a subgroup -/
theorem three {l : List Int} (hg : isGrp l = true) {H : Nat} (h : Cl l H) : ∃ x y z, x < ord l ∧ y < ord l ∧ z < ord l ∧ H = sumF l (sumF l (genF l (2 ^ x)) (genF l (2 ^ y))) (genF l (2 ^ z)) := by
  have hO := isGrp_ords hg
  have hob := ord_bd hg
  have h3 := isGrp_len hg
  obtain ⟨X, hXl, hXm, hXs⟩ := rank l hO _ (h.clo hg)
  have pad : ∃ x y z, (x < ord l ∧ H.testBit x = true) ∧ (y < ord l ∧ H.testBit y = true) ∧ (z < ord l ∧ H.testBit z = true) ∧ ∀ u, u < ord l → H.testBit u = true → ∃ a b c, u = addF l (mulN l x a) (addF l (mulN l y b) (mulN l z c)) := by
    have z0 : 0 < ord l ∧ H.testBit 0 = true := ⟨ord_pos hO, h.2.1⟩
    have zz : addF l 0 0 = 0 := addF_zero l hO 0 (ord_pos hO)
    match X, hXl, hXm, hXs with
    | [], _, _, hs => exact ⟨0, 0, 0, z0, z0, z0, fun u hu hh => ⟨0, 0, 0, by have e : u = 0 := hs u hu hh; rw [e]; show 0 = addF l 0 (addF l 0 0); rw [zz, zz]⟩⟩
    | [x], _, hm, hs => exact ⟨x, 0, 0, hm x (by simp), z0, z0, fun u hu hh => by
        obtain ⟨q, k, hk, hkl, e⟩ := hs u hu hh
        have ek : k = 0 := hk
        exact ⟨q, 0, 0, by rw [e, ek]; show _ = addF l _ (addF l 0 0); rw [zz]⟩⟩
    | [x, y], _, hm, hs => exact ⟨x, y, 0, hm x (by simp), hm y (by simp), z0, fun u hu hh => by
        obtain ⟨q, k, ⟨q2, k2, hk2, hk2l, e2⟩, hkl, e⟩ := hs u hu hh
        have ek : k2 = 0 := hk2
        exact ⟨q, q2, 0, by rw [e, e2, ek]; rfl⟩⟩
    | [x, y, z], _, hm, hs => exact ⟨x, y, z, hm x (by simp), hm y (by simp), hm z (by simp), fun u hu hh => by
        obtain ⟨q, k, ⟨q2, k2, ⟨q3, k3, hk3, hk3l, e3⟩, hk2l, e2⟩, hkl, e⟩ := hs u hu hh
        have ek : k3 = 0 := hk3
        exact ⟨q, q2, q3, by rw [e, e2, e3, ek, addF_comm l (mulN l z q3) 0, addF_zero l hO _ (mulN_lt hO z q3)]⟩⟩
    | x :: y :: z :: t :: R, hl, _, _ => simp at hl; omega
  obtain ⟨x, y, z, hx, hy, hz, hs⟩ := pad
  refine ⟨x, y, z, hx.1, hy.1, hz.1, Sub.antisymm (fun u hu => ?_) (sum_sub hg h (sum_sub hg h (sub_gen hg h hx.2) (sub_gen hg h hy.2)) (sub_gen hg h hz.2))⟩
  obtain ⟨a, b, c, e⟩ := hs u (bit_lt h.1 hu) hu
  have l1 := mulN_lt hO x a
  have l2 := mulN_lt hO y b
  have l3 := mulN_lt hO z c
  have l4 := addF_lt l hO (mulN l x a) (mulN l y b)
  rw [e, ← addF_assoc l hO]
  exact sum_in (by omega) (by omega) (sum_in (by omega) (by omega) (gen_mul hg hx.1 a) (gen_mul hg hy.1 b)) (gen_mul hg hz.1 c)

/-! ### the reference's list has all subgroups, each once -/
theorem mem_nthN {L : List Nat} {x : Nat} (h : x ∈ L) : ∃ k, k < L.length ∧ nthN L k = x := by
  obtain ⟨k, hk, e⟩ := List.getElem_of_mem h
  exact ⟨k, hk, by simp [nthN, List.getD, hk, e]⟩
theorem mem_pairT {l : List Int} {C : List Nat} {i j : Nat} (hij : j ≤ i) : ∀ k, i < k → sumF l (nthN C i) (nthN C j) ∈ pairT l C k
  | 0, h => by omega
  | k + 1, h => by
    by_cases e : i = k
    · subst e; exact mem_foldP.2 (Or.inr ⟨j, by omega, rfl⟩)
    · exact mem_foldP.2 (Or.inl (mem_pairT hij k (by omega)))
theorem mem_tripT {l : List Int} {T C : List Nat} {i j : Nat} (hj : j < C.length) : ∀ k, i < k → sumF l (nthN T i) (nthN C j) ∈ tripT l T C k
  | 0, h => by omega
  | k + 1, h => by
    by_cases e : i = k
    · subst e; exact mem_foldP.2 (Or.inr ⟨j, hj, rfl⟩)
    · exact mem_foldP.2 (Or.inl (mem_tripT hj k (by omega)))
theorem cyc_in {l : List Int} {x : Nat} (hx : x < ord l) : genF l (2 ^ x) ∈ cycL l := mem_foldP.2 (Or.inr ⟨x, hx, rfl⟩)
theorem two_in {l : List Int} {x y : Nat} (hx : x < ord l) (hy : y < ord l) : sumF l (genF l (2 ^ x)) (genF l (2 ^ y)) ∈ twoL l := by
  obtain ⟨i, hi, ei⟩ := mem_nthN (cyc_in hx)
  obtain ⟨j, hj, ej⟩ := mem_nthN (cyc_in hy)
  rcases Nat.le_total j i with h | h
  · have := mem_pairT (l := l) (C := cycL l) h (cycL l).length hi
    rwa [ei, ej] at this
  · have := mem_pairT (l := l) (C := cycL l) h (cycL l).length hj
    rw [ei, ej] at this
    rwa [sumF_comm]
theorem sg_in {l : List Int} (hg : isGrp l = true) {H : Nat} (h : Cl l H) : H ∈ sgL l := by
  obtain ⟨x, y, z, hx, hy, hz, rfl⟩ := three hg h
  obtain ⟨i, hi, ei⟩ := mem_nthN (two_in hx hy)
  obtain ⟨j, hj, ej⟩ := mem_nthN (cyc_in hz)
  have := mem_tripT (l := l) (T := twoL l) (C := cycL l) hj (twoL l).length hi
  rwa [ei, ej] at this
theorem cyc_cl {l : List Int} (hg : isGrp l = true) {x : Nat} (h : x ∈ cycL l) : Cl l x := by
  rcases mem_foldP.1 h with h | ⟨j, _, rfl⟩
  · cases h
  · exact Cl.genF hg _
theorem two_cl {l : List Int} (hg : isGrp l = true) {C : List Nat} (hC : ∀ x ∈ C, Cl l x) : ∀ {k x}, k ≤ C.length → x ∈ pairT l C k → Cl l x
  | 0, x, _, h => by cases h
  | k + 1, x, hk, h => by
    rcases mem_foldP.1 h with h | ⟨j, hj, rfl⟩
    · exact two_cl hg hC (by omega) h
    · exact Cl.sum hg (hC _ (nthN_mem (by omega))) (hC _ (nthN_mem (by omega)))
theorem sg_cl {l : List Int} (hg : isGrp l = true) {T C : List Nat} (hT : ∀ x ∈ T, Cl l x) (hC : ∀ x ∈ C, Cl l x) : ∀ {k x}, k ≤ T.length → x ∈ tripT l T C k → Cl l x
  | 0, x, _, h => hT x h
  | k + 1, x, hk, h => by
    rcases mem_foldP.1 h with h | ⟨j, hj, rfl⟩
    · exact sg_cl hg hT hC (by omega) h
    · exact Cl.sum hg (hT _ (nthN_mem (by omega))) (hC _ (nthN_mem (by omega)))
theorem sg_iff {l : List Int} (hg : isGrp l = true) {H : Nat} : H ∈ sgL l ↔ Cl l H :=
  ⟨fun h => sg_cl hg (fun x hx => two_cl hg (fun y hy => cyc_cl hg hy) (Nat.le_refl _) hx) (fun y hy => cyc_cl hg hy) (Nat.le_refl _) h, sg_in hg⟩
end Go.Zz

/- The program's list of subgroups has as many as the reference's. No program is named here. -/
namespace Go.Zz

theorem nodup_len : ∀ {L M : List Nat}, L.Nodup → (∀ x ∈ L, x ∈ M) → L.length ≤ M.length
  | [], _, _, _ => Nat.zero_le _
  | x :: L, M, h, s => by
    obtain ⟨h1, h2⟩ := List.nodup_cons.1 h
    have hx := s x (by simp)
    have ih := nodup_len (M := M.erase x) h2 (fun y hy => (List.mem_erase_of_ne (fun e => h1 (by rw [← e]; exact hy))).2 (s y (by simp [hy])))
    rw [List.length_erase_of_mem hx] at ih
    have := List.length_pos_of_mem hx
    simp only [List.length_cons]
    omega
theorem same_len {L M : List Nat} (hL : L.Nodup) (hM : M.Nodup) (h : ∀ x, x ∈ L ↔ x ∈ M) : L.length = M.length :=
  Nat.le_antisymm (nodup_len hL fun x hx => (h x).1 hx) (nodup_len hM fun x hx => (h x).2 hx)
/-- strictly ascending -/
def Asc (L : List Nat) : Prop := ∀ i j, i < j → j < L.length → nthN L i < nthN L j
theorem pk_gt {L : List Nat} {n : Nat} : ∀ m j, pkN L n m ≤ j → j < m → n < nthN L j
  | 0, _, _, h => by omega
  | m + 1, j, h1, h2 => by
    by_cases h : n < nthN L m
    · rw [pkN_down h] at h1
      by_cases e : j = m
      · subst e; exact h
      · exact pk_gt m j h1 (by omega)
    · rw [pkN_stop h] at h1; omega
theorem pk_low {L : List Nat} {n : Nat} : ∀ m, 0 < pkN L n m → nthN L (pkN L n m - 1) ≤ n
  | 0, h => by simp [pkN] at h
  | m + 1, h => by
    by_cases hn : n < nthN L m
    · rw [pkN_down hn] at h ⊢; exact pk_low m h
    · rw [pkN_stop hn]
      show nthN L (m + 1 - 1) ≤ n
      simp; omega
theorem nthN_putAt {L : List Nat} {n k i : Nat} (hk : k ≤ L.length) : nthN (putAt L n k) i = if i < k then nthN L i else if i = k then n else nthN L (i - 1) := by
  unfold putAt nthN
  have hl : (L.take k).length = k := by rw [List.length_take]; omega
  split
  · rename_i h
    simp only [List.getD]
    rw [List.getElem?_append_left (by omega), List.getElem?_take_of_lt h]
  · split
    · rename_i h1 h2
      subst h2
      simp only [List.getD]
      rw [List.getElem?_append_right (by omega), hl]
      simp
    · rename_i h1 h2
      simp only [List.getD]
      rw [List.getElem?_append_right (by omega), hl]
      obtain ⟨d, rfl⟩ : ∃ d, i = k + 1 + d := ⟨i - k - 1, by omega⟩
      rw [show k + 1 + d - k = d + 1 by omega, List.getElem?_cons_succ, List.getElem?_drop, show k + d = k + 1 + d - 1 by omega]
theorem asc_put {L : List Nat} (h : Asc L) (n : Nat) : Asc (putN L n) := by
  unfold putN
  split
  · exact h
  · rename_i hc
    have hk := pkN_le L n L.length
    have hgt := fun j h1 h2 => pk_gt (L := L) (n := n) L.length j h1 h2
    have hlow := pk_low (L := L) (n := n) L.length
    generalize pkN L n L.length = k at hc hk hgt hlow ⊢
    intro i j hij hj
    rw [putAt_len hk] at hj
    rw [nthN_putAt hk, nthN_putAt hk]
    have hlt : ∀ q, q < k → nthN L q < n := by
      intro q hq
      have h1 := hlow (by omega)
      have h2 : nthN L (k - 1) ≠ n := fun e => hc ⟨by omega, e⟩
      by_cases e : q = k - 1
      · rw [e]; omega
      · have := h q (k - 1) (by omega) (by omega); omega
    by_cases h1 : i < k
    · rw [if_pos h1]
      by_cases h2 : j < k
      · rw [if_pos h2]; exact h i j hij (by omega)
      · rw [if_neg h2]
        by_cases h3 : j = k
        · rw [if_pos h3]; exact hlt i h1
        · rw [if_neg h3]
          have := hlt i h1
          have := hgt (j - 1) (by omega) (by omega)
          omega
    · rw [if_neg h1, if_neg (show ¬ j < k by omega), if_neg (show ¬ j = k by omega)]
      by_cases h2 : i = k
      · rw [if_pos h2]; exact hgt (j - 1) (by omega) (by omega)
      · rw [if_neg h2]; exact h (i - 1) (j - 1) (by omega) (by omega)
theorem asc_nodup {L : List Nat} (h : Asc L) : L.Nodup := by
  rw [List.nodup_iff_pairwise_ne] 
  rw [List.pairwise_iff_getElem]
  intro i j hi hj hij e
  have := h i j hij hj
  simp [nthN, List.getD, hi, hj, e] at this
theorem asc_nil : Asc [] := fun _ _ _ h => by simp at h
theorem asc_foldP {f : Nat → Nat} {P : List Nat} (h : Asc P) : ∀ k, Asc (foldP f P k)
  | 0 => h
  | k + 1 => by rw [foldP_succ]; exact asc_put (asc_foldP h k) _
theorem asc_pair (l : List Int) (C : List Nat) : ∀ k, Asc (pairT l C k)
  | 0 => asc_nil
  | k + 1 => asc_foldP (asc_pair l C k) _
theorem asc_trip (l : List Int) {T : List Nat} (C : List Nat) (h : Asc T) : ∀ k, Asc (tripT l T C k)
  | 0 => h
  | k + 1 => asc_foldP (asc_trip l C h k) _
theorem sg_nodup (l : List Int) : (sgL l).Nodup := asc_nodup (asc_trip l _ (asc_pair l _ _) _)

/-! ### the program's search -/
def addTo (P : List Nat) (y : Nat) : List Nat := if y ∈ P then P else P ++ [y]
theorem mem_addTo {P : List Nat} {y x : Nat} : x ∈ addTo P y ↔ x ∈ P ∨ x = y := by
  unfold addTo
  split
  · rename_i h
    exact ⟨Or.inl, fun q => q.elim id fun e => by rw [e]; exact h⟩
  · simp
theorem addTo_nodup {P : List Nat} (h : P.Nodup) (y : Nat) : (addTo P y).Nodup := by
  unfold addTo
  split
  · exact h
  · rename_i hy
    rw [List.nodup_append]
    exact ⟨h, by simp, fun a ha b hb e => hy (by simp at hb; rw [← hb, ← e]; exact ha)⟩
theorem nthN_addTo {P : List Nat} {y i : Nat} (hi : i < P.length) : nthN (addTo P y) i = nthN P i := by
  unfold addTo
  split
  · rfl
  · simp only [nthN, List.getD]
    rw [List.getElem?_append_left hi]
theorem addTo_len {P : List Nat} (y : Nat) : P.length ≤ (addTo P y).length := by
  unfold addTo; split <;> simp
/-- what holds of the list while it grows: the first i have been gone through, and k elements of the next one -/
structure Bfs (l : List Int) (P : List Nat) (i k : Nat) : Prop where
  nodup : P.Nodup
  one : 1 ∈ P
  cl : ∀ x ∈ P, Cl l x
  done : ∀ j, j < i → ∀ x, x < ord l → genF l (nthN P j ||| 2 ^ x) ∈ P
  part : ∀ x, x < k → genF l (nthN P i ||| 2 ^ x) ∈ P
theorem cl_one {l : List Int} (hg : isGrp l = true) : Cl l 1 := by
  refine ⟨one_lt hg, by decide, fun x y hx hy => ?_⟩
  have z : ∀ i, (1 : Nat).testBit i = true → i = 0 := by
    intro i hi
    cases i with
    | zero => rfl
    | succ i => rw [Nat.testBit_succ] at hi; simp at hi
  rw [z x hx, z y hy, dif_self (isGrp_ords hg)]; decide
theorem Bfs.start {l : List Int} (hg : isGrp l = true) : Bfs l [1] 0 0 :=
  ⟨by simp, by simp, fun x hx => by simp at hx; subst hx; exact cl_one hg, fun _ h => by omega, fun _ h => by omega⟩
theorem Bfs.next {l : List Int} (hg : isGrp l = true) {P : List Nat} {i k : Nat} (h : Bfs l P i k) (hi : i < P.length) : Bfs l (addTo P (genF l (nthN P i ||| 2 ^ k))) i (k + 1) := by
  refine ⟨addTo_nodup h.nodup _, mem_addTo.2 (Or.inl h.one), fun x hx => ?_, fun j hj x hx => ?_, fun x hx => ?_⟩
  · rcases mem_addTo.1 hx with hx | rfl
    · exact h.cl x hx
    · exact Cl.genF hg _
  · rw [nthN_addTo (by omega)]; exact mem_addTo.2 (Or.inl (h.done j hj x hx))
  · rw [nthN_addTo hi]
    by_cases e : x = k
    · subst e; exact mem_addTo.2 (Or.inr rfl)
    · exact mem_addTo.2 (Or.inl (h.part x (by omega)))
theorem Bfs.row {l : List Int} {P : List Nat} {i : Nat} (h : Bfs l P i (ord l)) : Bfs l P (i + 1) 0 :=
  ⟨h.nodup, h.one, h.cl, fun j hj x hx => by
    by_cases e : j = i
    · subst e; exact h.part x hx
    · exact h.done j (by omega) x hx, fun _ hx => by omega⟩
theorem Bfs.len {l : List Int} (hg : isGrp l = true) {P : List Nat} {i k : Nat} (h : Bfs l P i k) : P.length ≤ 14400 := by
  have := nodup_len h.nodup (M := sgL l) fun x hx => sg_in hg (h.cl x hx)
  have := sgL_len hg
  omega
theorem gen_sub {l : List Int} (hg : isGrp l = true) {H a : Nat} (h : Cl l H) (ha : Sub a H) : Sub (genF l a) H := by
  refine genF_least (fun i hi => ?_) (fun i hi => ?_)
  · have : i = 0 := by
      cases i with
      | zero => rfl
      | succ i => rw [Nat.testBit_succ] at hi; simp at hi
    subst this; exact h.2.1
  · obtain ⟨u, t, _, hu, _, ht, rfl⟩ := testBit_sumF.1 hi
    exact h.add hg hu (ha t ht)
theorem gen_has {l : List Int} (hg : isGrp l = true) {a : Nat} (ha : a < 2 ^ ord l) : Sub a (genF l a) := fun i hi => by
  have hib := bit_lt ha hi
  have hob := ord_bd hg
  exact genF_sum hg a i (testBit_sumF.2 ⟨0, i, by omega, genF_zero l a, by omega, hi, addF_zero l (isGrp_ords hg) i hib⟩)
/-- at the end all subgroups stand in the list -/
theorem Bfs.all {l : List Int} (hg : isGrp l = true) {P : List Nat} (h : Bfs l P P.length 0) {H : Nat} (hH : Cl l H) : H ∈ P := by
  have key : ∀ d S, S ∈ P → Sub S H → cnt H ≤ cnt S + d → H ∈ P := by
    intro d
    induction d with
    | zero =>
      intro S hS hs hc
      have := eq_of_cnt (Nat.lt_of_lt_of_le hH.1 (pow_ord hg)) hs (by omega)
      rwa [← this]
    | succ d ih =>
      intro S hS hs hc
      by_cases e : S = H
      · rwa [← e]
      · obtain ⟨x, hx1, hx2⟩ : ∃ x, H.testBit x = true ∧ S.testBit x = false := by
          false_or_by_contra
          rename_i hn
          refine e (Sub.antisymm hs fun i hi => ?_)
          cases hb : S.testBit i
          · exact absurd ⟨i, hi, hb⟩ hn
          · rfl
        have hxl := bit_lt hH.1 hx1
        obtain ⟨j, hj, ej⟩ := mem_nthN hS
        have hm := h.done j hj x hxl
        rw [ej] at hm
        have hSl := (h.cl S hS).1
        have hpl : 2 ^ x < 2 ^ ord l := Nat.pow_lt_pow_right (by omega) hxl
        have hal : S ||| 2 ^ x < 2 ^ ord l := Nat.or_lt_two_pow hSl hpl
        have hsub : Sub (genF l (S ||| 2 ^ x)) H := gen_sub hg hH (Sub.or hs fun i hi => by
          rw [Nat.testBit_two_pow] at hi
          have : x = i := of_decide_eq_true hi
          subst this; exact hx1)
        have hhas := gen_has hg hal
        have hlt := (sub_lt (Nat.lt_of_lt_of_le (genF_lt hg _) (pow_ord hg)) (show Sub S (genF l (S ||| 2 ^ x)) from (Sub.or_left _ _).trans hhas) (fun e2 => by
          have : (genF l (S ||| 2 ^ x)).testBit x = true := hhas x (by rw [Nat.testBit_or, Nat.testBit_two_pow]; simp)
          rw [← e2, hx2] at this; cases this)).2
        exact ih _ hm hsub (by omega)
  exact key (cnt H) 1 h.one (fun i hi => by
    have : i = 0 := by
      cases i with
      | zero => rfl
      | succ i => rw [Nat.testBit_succ] at hi; simp at hi
    subst this; exact hH.2.1) (by omega)
/-- as many as the reference lists -/
theorem Bfs.count {l : List Int} (hg : isGrp l = true) {P : List Nat} (h : Bfs l P P.length 0) : P.length = (sgL l).length :=
  same_len h.nodup (sg_nodup l) fun x => ⟨fun hx => sg_in hg (h.cl x hx), fun hx => h.all hg ((sg_iff hg).1 hx)⟩
end Go.Zz

/- All subgroups: the program. -/
namespace Go.Zz
open Go.RowKit Go.Proofs
set_option maxHeartbeats 2000000
set_option maxRecDepth 8000

theorem memB_cast (P : List Nat) (y : Nat) : memB (castL P) (y : Int) = decide (y ∈ P) := by
  unfold memB
  refine decide_eq_decide.2 ⟨fun h => ?_, fun h => List.mem_map.2 ⟨y, h, rfl⟩⟩
  obtain ⟨z, hz, e⟩ := List.mem_map.1 h
  have : z = y := by omega
  rwa [← this]
theorem addTo_yes {P : List Nat} {y : Nat} (h : y ∈ P) : addTo P y = P := if_pos h
theorem addTo_no {P : List Nat} {y : Nat} (h : y ∉ P) : addTo P y = P ++ [y] := if_neg h
theorem Bfs.lt {l : List Int} (hg : isGrp l = true) {P : List Nat} {i k : Nat} (h : Bfs l P i k) {j : Nat} (hj : j < P.length) : nthN P j < 2 ^ 24 :=
  Nat.lt_of_lt_of_le (h.cl _ (nthN_mem hj)).1 (pow_ord hg)
theorem SubgroupsOf_by (v : Value) (l : List Int) (w : World) (h : Ints w v l) (Hgr : Hid (isGrp l = true))
    (hS : ∀ (w0 W : World) (u : Value) (L : List Int), Own 3 w0 W u L → Ext w0 W → L.length ≤ 1000000 → Calls Try.prog 43 #[u] W fun e w' => e = .returned (.tuple #[]) ∧ Own 3 w0 w' u (L.mergeSort fun x y => decide (x ≤ y)) ∧ Ext w0 w') :
    Calls Try.prog 22 #[.agg #[v]] w fun e w' => ∃ ao c n, n = (sgL l).length ∧ e = .returned (.tuple #[.slice ao n c, .bool true]) ∧ Ext w w' := by
  obtain ⟨wb, hwb⟩ : ∃ wb, wb = w.alloc (.cells #[v] 27) := ⟨_, rfl⟩
  have hE0 := (Ext.refl w).alloc (.cells #[v] 27)
  have hb := box_cell w v 27
  rw [← hwb] at hE0 hb
  have hg : ∀ W, Ext wb W → Ints W v l := fun W hW => h.ext (hE0.trans hW)
  have hE := Ext.refl wb
  have Hsz : Hid (w.heap.size + 1 = wb.heap.size) := Lib.hid (by rw [hwb]; simp [go_sem])
  have Hwb := Lib.hid hwb
  clear hwb h
  have hbx := hb wb hE
  have hob := ord_bd Hgr.out
  have HS := Lib.hid hS
  clear hS
  go_enter Try.func22, Try.ntmps22
  go_wp2_with fail
  rw [← Hwb.out]
  have hgr := Hgr.out
  go_wp2_with (go_at_call 21; refine (IsGroup_any _ _ _ (hg _ hE)).mono ?_; rintro e w1 ⟨rfl, hE1⟩)
  have hO := own_made (TI := 3) (n := 1) (by omega) (Ext.refl w1) [1] rfl
  have hEa := (Ext.refl w1).alloc (.cells #[.int .i64 1] 3)
  have hD0 : Dv w1 (some ⟨w1.heap.size, 0, none⟩) 1 1 [1] (w1.alloc (.cells #[.int .i64 1] 3)) := ⟨hO, rfl, hEa⟩
  have hb1 := fun W (hW : Ext w1 W) => hb W ((hE.trans hE1).trans hW)
  have hg1 := fun W (hW : Ext w1 W) => hg W ((hE.trans hE1).trans hW)
  have hW1 := hE0.trans (hE.trans hE1)
  have HB0 := Lib.hid (Bfs.start hgr)
  clear hO hEa hb hg hE hE1 hgr hbx
  go_loopw [4, 5] (fun s4 s5 wr => ∃ (i : Nat) (ao : Option Addr) (c : Nat) (P : List Nat), i ≤ P.length ∧ s5 = .int .i64 i ∧ s4 = .slice ao P.length c ∧ Dv w1 ao P.length c P wr ∧ Hid (Bfs l P i 0)) (fun _ s5 _ => 14401 - (intOf s5).toNat)
  case atStart => exact ⟨0, _, 1, [1], by omega, rfl, rfl, hD0, HB0⟩
  case round =>
    clear hD0 HB0
    rename World => wo
    obtain ⟨i, ao, c, P, hi, rfl, rfl, hDo, HBo⟩ := hrel
    have hPl := HBo.out.len Hgr.out
    by_cases hlt : i < P.length
    · have hltI : (i : Int) < (P.length : Int) := by omega
      have hbo := hb1 _ hDo.ext
      have cO := OrderOf_grp v l _ (hg1 _ hDo.ext) Hgr
      go_wp2_with (go_at_call 26; refine cO.mono ?_; rintro e w2 ⟨rfl, hE2⟩)
      have hD2 := hDo.ext2 hE2
      clear hDo hbo cO
      go_loopw [4, 21] (fun s4 s21 wr => ∃ (k : Nat) (ao : Option Addr) (c : Nat) (P : List Nat), k ≤ ord l ∧ i < P.length ∧ s21 = .int .i64 k ∧ s4 = .slice ao P.length c ∧ Dv w1 ao P.length c P wr ∧ Hid (Bfs l P i k)) (fun _ s21 _ => ord l - (intOf s21).toNat)
      case atStart => exact ⟨0, _, c, P, by omega, hlt, rfl, rfl, hD2, HBo⟩
      case round =>
        clear hD2 HBo hPl hltI hlt hi
        rename World => wr
        obtain ⟨k, ao, c, P, hk, hlt, rfl, rfl, hD, HB⟩ := hrel
        have hPl := HB.out.len Hgr.out
        by_cases hlk : k < ord l
        · have hlkI : (k : Int) < (ord l : Int) := by omega
          have hltI : (i : Int) < (P.length : Int) := by omega
          have HN := Lib.hid (HB.out.next Hgr.out hlt)
          have hlt24 := HB.out.lt Hgr.out hlt
          obtain ⟨g, rfl⟩ := hD.at hlt
          have hix := dv_index g P.length c
          have hDd := hD.drew
          have ci := (hDd.cell hlt).1
          have bd := hb1 _ hDd.ext
          obtain ⟨X, hX⟩ : ∃ X, X = nthN P i := ⟨_, rfl⟩
          rw [← hX] at ci HN hlt24
          have q1 := ishl_one (n := k) (by omega)
          have q2 := ior_pw (o := X) (z := k) hlt24 (by omega)
          have hor : X ||| 2 ^ k < 2 ^ 24 := Nat.or_lt_two_pow hlt24 (Nat.pow_lt_pow_right (by omega) (by omega))
          have cG := generated_any v l (X ||| 2 ^ k) wr.drew (hg1 _ hDd.ext) Hgr hor
          obtain ⟨Y, hY⟩ : ∃ Y, Y = genF l (X ||| 2 ^ k) := ⟨_, rfl⟩
          rw [← hY] at cG HN
          obtain ⟨Z, hZ⟩ : ∃ Z : Nat, Z = (X ||| 2 ^ k) := ⟨_, rfl⟩
          rw [← hZ] at cG q2
          obtain ⟨pk, hpk⟩ : ∃ x : Int, x = ((pw k : Nat) : Int) := ⟨_, rfl⟩
          rw [← hpk] at q1 q2
          have hXI : 0 ≤ (X : Int) ∧ (X : Int) < 16777216 := by omega
          clear hX hY hZ hpk hor
          go_wp2_with fail
          refine wp_region_held_drew (S := (fun W => W.cell? ⟨w.heap.size, 0, none⟩ = some v ∧ W.cell? ⟨g, i, none⟩ = some (.int .i64 (X : Int)))) (by kernel_rfl) (by exact ⟨bd, ci⟩) (fun hHeld => ?_)
          (refine takeOn (i := 0) (v := ?_) (by kernel_rfl) (by rfl) (by rfl) (by kernel_rfl) (by kernel_rfl) (by intro _ _ _ h; exact h) ?_ (by assumption) ?_); (rotate_left 1); (focus ((intro w hSw); (try dsimp only at hSw); go_simp; (try with_reducible rfl))); (try simp only [Act.put, List.setIfInBounds_toArray, List.set_cons_zero, List.set_cons_succ, List.getElem_toArray, List.getElem_cons_zero, List.getElem_cons_succ])
          (refine takeOn (i := 1) (v := ?_) (by kernel_rfl) (by rfl) (by rfl) (by kernel_rfl) (by kernel_rfl) (by intro _ _ _ h; exact h) ?_ (by assumption) ?_); (rotate_left 1); (focus ((intro w hSw); (try dsimp only at hSw); go_simp; (try with_reducible rfl))); (try simp only [Act.put, List.setIfInBounds_toArray, List.set_cons_zero, List.set_cons_succ, List.getElem_toArray, List.getElem_cons_zero, List.getElem_cons_succ])
          (refine takeOn (i := 2) (v := ?_) (by kernel_rfl) (by rfl) (by rfl) (by kernel_rfl) (by kernel_rfl) (by intro _ _ _ h; exact h) ?_ (by assumption) ?_); (rotate_left 1); (focus ((intro w hSw); (try dsimp only at hSw); go_simp; (try with_reducible rfl))); (try simp only [Act.put, List.setIfInBounds_toArray, List.set_cons_zero, List.set_cons_succ, List.getElem_toArray, List.getElem_cons_zero, List.getElem_cons_succ])
          (refine takeOn (i := 3) (v := ?_) (by kernel_rfl) (by rfl) (by rfl) (by kernel_rfl) (by kernel_rfl) (by intro _ _ _ h; exact h) ?_ (by assumption) ?_); (rotate_left 1); (focus ((intro w hSw); (try dsimp only at hSw); go_simp; (try with_reducible rfl))); (try simp only [Act.put, List.setIfInBounds_toArray, List.set_cons_zero, List.set_cons_succ, List.getElem_toArray, List.getElem_cons_zero, List.getElem_cons_succ])
          (refine takeOn (i := 4) (v := ?_) (by kernel_rfl) (by rfl) (by rfl) (by kernel_rfl) (by kernel_rfl) (by intro _ _ _ h; exact h) ?_ (by assumption) ?_); (rotate_left 1); (focus ((intro w hSw); (try dsimp only at hSw); go_simp; (try with_reducible rfl))); (try simp only [Act.put, List.setIfInBounds_toArray, List.set_cons_zero, List.set_cons_succ, List.getElem_toArray, List.getElem_cons_zero, List.getElem_cons_succ])
          (refine takeOn (i := 5) (v := ?_) (by kernel_rfl) (by rfl) (by rfl) (by kernel_rfl) (by kernel_rfl) (by intro _ _ _ h; exact h) ?_ (by assumption) ?_); (rotate_left 1); (focus ((intro w hSw); (try dsimp only at hSw); go_simp; (try with_reducible rfl))); (try simp only [Act.put, List.setIfInBounds_toArray, List.set_cons_zero, List.set_cons_succ, List.getElem_toArray, List.getElem_cons_zero, List.getElem_cons_succ])
          (refine takeOn (i := 6) (v := ?_) (by kernel_rfl) (by rfl) (by rfl) (by kernel_rfl) (by kernel_rfl) (by intro _ _ _ h; exact h) ?_ (by assumption) ?_); (rotate_left 1); (focus ((intro w hSw); (try dsimp only at hSw); go_simp; (first | done | with_reducible rfl | (rw [if_neg]; (try simp only [ByteArray.size_append, ByteArray.size_mk, List.size_toArray, List.length_cons, List.length_nil]); omega) | trace_state))); (try simp only [Act.put, List.setIfInBounds_toArray, List.set_cons_zero, List.set_cons_succ, List.getElem_toArray, List.getElem_cons_zero, List.getElem_cons_succ])
          (refine takeOn (i := 7) (v := ?_) (by kernel_rfl) (by rfl) (by rfl) (by kernel_rfl) (by kernel_rfl) (by intro _ _ _ h; exact h) ?_ (by assumption) ?_); (rotate_left 1); (focus ((intro w hSw); (try dsimp only at hSw); go_simp; (first | done | with_reducible rfl | (rw [if_neg]; (try simp only [ByteArray.size_append, ByteArray.size_mk, List.size_toArray, List.length_cons, List.length_nil]); omega) | trace_state))); (try simp only [Act.put, List.setIfInBounds_toArray, List.set_cons_zero, List.set_cons_succ, List.getElem_toArray, List.getElem_cons_zero, List.getElem_cons_succ])
          refine takeOne (i := 8) (by kernel_rfl) (by rfl) (by rfl) (fun K hK => ?_)
          go_simp; (go_at_call 41; (with_reducible refine Calls.mono cG ?_); rintro e w3 ⟨rfl, hE3⟩); have hD3 := hDd.ext2 hE3; have c3 := hE3.cell ci; have b3 := hb1 _ hD3.ext
          refine hK.out _ _ (by exact ⟨b3, c3⟩) (fun hHeld => ?_)
          clear hK K
          (try simp only [Act.put, List.setIfInBounds_toArray, List.set_cons_zero, List.set_cons_succ, List.getElem_toArray, List.getElem_cons_zero, List.getElem_cons_succ])
          (refine takeOn (i := 9) (v := ?_) (by kernel_rfl) (by rfl) (by rfl) (by kernel_rfl) (by kernel_rfl) (by intro _ _ _ h; exact h) ?_ (by assumption) ?_); (rotate_left 1); (focus ((intro w hSw); (try dsimp only at hSw); go_simp; (try with_reducible rfl))); (try simp only [Act.put, List.setIfInBounds_toArray, List.set_cons_zero, List.set_cons_succ, List.getElem_toArray, List.getElem_cons_zero, List.getElem_cons_succ])
          refine wpAnyH_done (by kernel_rfl) ?_ _
          go_wp2_with fail
          have hI3 := hD3.own.ints
          clear bd ci b3 c3
          by_cases hy : Y ∈ P
          · have cC := slicesContains_val _ (castL P) (Y : Int) w3 hI3 (c := true) (by rw [memB_cast]; exact decide_eq_true hy)
            have HN2 := Lib.hid (addTo_yes hy)
            go_wp2_with (go_at_call 42; refine cC.mono ?_; rintro e w4 ⟨rfl, rfl⟩)
            go_roundw
            case rel => exact ⟨k + 1, _, c, P, by omega, hlt, by go_num, rfl, hD3, by rw [← HN2.out]; exact HN⟩
            case measure => (simp [intOf]; omega)
          · have cC := slicesContains_val _ (castL P) (Y : Int) w3 hI3 (c := false) (by rw [memB_cast]; exact decide_eq_false hy)
            have HN2 := Lib.hid (addTo_no hy)
            go_wp2_with (first | (go_at_call 42; refine cC.mono ?_; rintro e w4 ⟨rfl, rfl⟩) | (at_builtin; refine wp_append1 slI rfl _ _ rfl w1 _ _ _ _ hD3.own hD3.ext (by rw [castL_len]; omega) rfl rfl ?_; intro v5 w5 hO5 hE5; rw [← castL_snoc] at hO5; obtain ⟨a5, c5, rfl, -⟩ := hO5.shape; rw [castL_len] at hO5 ⊢))
            go_roundw
            case rel => exact ⟨k + 1, a5, c5, P ++ [Y], by omega, by simp; omega, by go_num, by rw [List.length_append]; rfl, ⟨hO5, rfl, hE5⟩, by rw [← HN2.out]; exact HN⟩
            case measure => (simp [intOf]; omega)
        · have hlkI : ¬ (k : Int) < (ord l : Int) := by omega
          have hke : k = ord l := by omega
          rw [hke] at HB
          have HR := Lib.hid (HB.out.row)
          go_wp2_with fail
          go_roundw
          case rel => exact ⟨i + 1, _, c, P, by omega, by go_num, rfl, hD, HR⟩
          case measure => (simp [intOf]; omega)
    · have hin : i = P.length := by omega
      have hltI : ¬ (i : Int) < (P.length : Int) := by omega
      rw [hin] at HBo
      have Hcount := Lib.hid (HBo.out.count Hgr.out)
      have cS := HS.out _ _ _ _ hDo.own hDo.ext (by rw [castL_len]; omega)
      go_wp2_with fail
      go_at_call 43
      with_reducible refine Calls.mono cS ?_
      rintro e w3 ⟨rfl, -, hE3⟩
      go_wp2_with fail
      exact bodyPost_ret (v := .tuple #[.slice ao P.length c, .bool true]) (by simp [results, Try.results22, go_sem]) rfl ⟨ao, c, P.length, Hcount.out, rfl, hW1.trans hE3⟩
end Go.Zz
