/- Plain facts: a number put into a list, the tiles of a search are distinct. No program is named here. -/
import Derived.Test.YtdlbbpeahicakaaGreatGr14
import Derived.Test.YtdlbbpeahicakaaGreatGr15
import Derived.Test.YtdlbbpeahicakaaGreatGr4
import Derived.Test.YtdlbbpeahicakaaGreatGr10
import Derived.Test.YtdlbbpeahicakaaGreatGr18
import Derived.Deep.RegionHeld3
set_option linter.unusedSimpArgs false
set_option linter.unusedVariables false
set_option linter.unnecessarySimpa false
namespace Go.Zz
def pkN(L:List Nat)(n:Nat):Nat→Nat
 | 0=>0
 | k+1=>if n<nthN L k then pkN L n k else k+1
theorem pkN_down{L:List Nat}{n k:Nat}(h:n<nthN L k):pkN L n (k+1)=pkN L n k:=by rw[pkN,if_pos h]
theorem pkN_stop{L:List Nat}{n k:Nat}(h:¬n<nthN L k):pkN L n (k+1)=k+1:=by rw[pkN,if_neg h]
def putAt(L:List Nat)(n k:Nat):List Nat:=L.take k++n :: L.drop k
def putN(L:List Nat)(n:Nat):List Nat:=if 0<pkN L n L.length∧nthN L (pkN L n L.length - 1)=n then L else putAt L n (pkN L n L.length)
theorem pkN_le(L:List Nat)(n:Nat):∀k,pkN L n k≤k
 | 0=>Nat.le_refl _
 | k+1=>by
  unfold pkN;split
  · exact Nat.le_succ_of_le (pkN_le L n k)
  · exact Nat.le_refl _
theorem putN_old{L:List Nat}{n k:Nat}(hk:pkN L n L.length=k+1)(h:nthN L k=n):putN L n=L:=by
 unfold putN;rw[hk,if_pos ⟨by omega,h⟩]
theorem putN_zero{L:List Nat}{n:Nat}(hk:pkN L n L.length=0):putN L n=putAt L n 0:=by
 unfold putN;rw[hk,if_neg (by omega)]
theorem putN_new{L:List Nat}{n k:Nat}(hk:pkN L n L.length=k+1)(h:¬nthN L k=n):putN L n=putAt L n (k+1):=by
 unfold putN;rw[hk,if_neg (fun e=>h e.2)]
theorem putAt_len{L:List Nat}{n k:Nat}(hk:k≤L.length):(putAt L n k).length=L.length+1:=by
 unfold putAt;rw[List.length_append,List.length_cons,List.length_take,List.length_drop];omega
theorem mem_putAt{L:List Nat}{n k x:Nat}:x∈putAt L n k↔x=n∨x∈L:=by
 unfold putAt
 rw[List.mem_append,List.mem_cons]
 have h:x∈L↔x∈L.take k∨x∈L.drop k:=by rw[←List.mem_append,List.take_append_drop]
 rw[h]
 constructor
 · rintro (a | a | a)
   · exact Or.inr (Or.inl a)
   · exact Or.inl a
   · exact Or.inr (Or.inr a)
 · rintro (a | a | a)
   · exact Or.inr (Or.inl a)
   · exact Or.inl a
   · exact Or.inr (Or.inr a)
theorem putN_cases(L:List Nat)(n:Nat):(putN L n=L∧n∈L)∨putN L n=putAt L n (pkN L n L.length):=by
 unfold putN
 split
 · next h =>
    refine Or.inl ⟨rfl,?_⟩
    have hle:=pkN_le L n L.length
    have:=nthN_mem (L:=L) (k:=pkN L n L.length - 1) (by omega)
    rwa [h.2] at this
 · exact Or.inr rfl
theorem mem_putN{L:List Nat}{n x:Nat}:x∈putN L n↔x=n∨x∈L:=by
 rcases putN_cases L n with ⟨e,h⟩ | e
 · rw[e]
   constructor
   · exact Or.inr
   · rintro (rfl | a)
     · exact h
     · exact a
 · rw[e];exact mem_putAt
theorem putN_len(L:List Nat)(n:Nat):(putN L n).length≤L.length+1:=by
 rcases putN_cases L n with ⟨e,-⟩ | e
 · rw[e];omega
 · rw[e,putAt_len (pkN_le _ _ _)];exact Nat.le_refl _
end Go.Zz
namespace Go.Zz
def foldP(f:Nat→Nat)(P:List Nat)(k:Nat):List Nat:=(List.range k).foldl (fun L j=>putN L (f j)) P
theorem foldP_zero(f:Nat→Nat)(P:List Nat):foldP f P 0=P:=rfl
theorem foldP_succ(f:Nat→Nat)(P:List Nat)(k:Nat):foldP f P (k+1)=putN (foldP f P k) (f k):=by unfold foldP;rw[List.range_succ,List.foldl_append];rfl
theorem foldP_len(f:Nat→Nat)(P:List Nat):∀k,(foldP f P k).length≤P.length+k
 | 0=>Nat.le_refl _
 | k+1=>by rw[foldP_succ];have:=foldP_len f P k;have:=putN_len (foldP f P k) (f k);omega
theorem mem_foldP{f:Nat→Nat}{P:List Nat}{x:Nat}:∀{k},x∈foldP f P k↔x∈P∨∃j,j<k∧x=f j
 | 0=>by simp[foldP_zero]
 | k+1=>by
  rw[foldP_succ,mem_putN,mem_foldP]
  constructor
  · rintro (h | h | ⟨j,hj,e⟩)
    · exact Or.inr ⟨k,by omega,h⟩
    · exact Or.inl h
    · exact Or.inr ⟨j,by omega,e⟩
  · rintro (h | ⟨j,hj,e⟩)
    · exact Or.inr (Or.inl h)
    · by_cases hjk:j=k
      · subst hjk;exact Or.inl e
      · exact Or.inr (Or.inr ⟨j,by omega,e⟩)
def cycT(l:List Int)(k:Nat):List Nat:=foldP (fun x=>genF l (2 ^ x)) [] k
def pairT(l:List Int)(C:List Nat):Nat→List Nat
 | 0=>[]
 | k+1=>foldP (fun j=>sumF l (nthN C k) (nthN C j)) (pairT l C k) (k+1)
theorem pairT_len(l:List Int)(C:List Nat):∀k,(pairT l C k).length≤k*k
 | 0=>Nat.le_refl _
 | k+1=>by
  have h1:=pairT_len l C k
  have h2:=foldP_len (fun j=>sumF l (nthN C k) (nthN C j)) (pairT l C k) (k+1)
  show (foldP _ _ _).length≤_
  have e:(k+1)*(k+1)=k*k+k+k+1:=by rw[Nat.add_mul,Nat.mul_add];omega
  omega
def tripT(l:List Int)(T C:List Nat):Nat→List Nat
 | 0=>T
 | k+1=>foldP (fun j=>sumF l (nthN T k) (nthN C j)) (tripT l T C k) C.length
theorem tripT_len(l:List Int)(T C:List Nat):∀k,(tripT l T C k).length≤T.length+k*C.length
 | 0=>by simp[tripT]
 | k+1=>by
  have h1:=tripT_len l T C k
  have h2:=foldP_len (fun j=>sumF l (nthN T k) (nthN C j)) (tripT l T C k) C.length
  show (foldP _ _ _).length≤_
  rw[Nat.add_mul]
  omega
def cycL(l:List Int):List Nat:=cycT l (ord l)
def twoL(l:List Int):List Nat:=pairT l (cycL l) (cycL l).length
def sgL(l:List Int):List Nat:=tripT l (twoL l) (cycL l) (twoL l).length
theorem cycL_len{l:List Int}(hg:isGrp l=true):(cycL l).length≤24:=by
 have:=foldP_len (fun x=>genF l (2 ^ x)) [] (ord l)
 have:=ord_bd hg
 simp only[List.length_nil] at *
 show (foldP _ _ _).length≤_
 omega
theorem twoL_len{l:List Int}(hg:isGrp l=true):(twoL l).length≤576:=by
 have h1:=pairT_len l (cycL l) (cycL l).length
 have h2:=cycL_len hg
 exact Nat.le_trans h1 (Nat.mul_le_mul h2 h2)
theorem sgL_len{l:List Int}(hg:isGrp l=true):(sgL l).length≤14400:=by
 have h1:=tripT_len l (twoL l) (cycL l) (twoL l).length
 have h2:=cycL_len hg
 have h3:=twoL_len hg
 have h4:(twoL l).length*(cycL l).length≤576*24:=Nat.mul_le_mul h3 h2
 show (tripT _ _ _ _).length≤_
 omega
theorem cyc_lt{l:List Int}(hg:isGrp l=true){k x:Nat}(h:x∈cycT l k):x<2 ^ ord l:=by
 rcases mem_foldP.1 h with h | ⟨j,_,rfl⟩
 · cases h
 · exact genF_lt hg _
theorem pairT_lt{l:List Int}(hg:isGrp l=true){C:List Nat}:∀{k x},x∈pairT l C k→x<2 ^ ord l
 | 0,x,h=>by cases h
 | k+1,x,h=>by
  rcases mem_foldP.1 h with h | ⟨j,_,rfl⟩
  · exact pairT_lt hg h
  · exact sumF_lt (isGrp_ords hg) _ _
theorem twoL_lt{l:List Int}(hg:isGrp l=true):∀x∈twoL l,x<2 ^ ord l:=fun _ h=>pairT_lt hg h
theorem nthN_lt{l:List Int}(hg:isGrp l=true){L:List Nat}(h:∀x∈L,x<2 ^ ord l)(k:Nat):nthN L k<2 ^ ord l:=by
 by_cases hk:k<L.length
 · exact h _ (nthN_mem hk)
 · have:nthN L k=0:=by simp[nthN,List.getD,hk]
   rw[this];exact Nat.two_pow_pos _
theorem cycL_ne{l:List Int}(hg:isGrp l=true):0<(cycL l).length:=by
 have hob:=ord_bd hg
 have:genF l (2 ^ 0)∈cycL l:=mem_foldP.2 (Or.inr ⟨0,by omega,rfl⟩)
 exact List.length_pos_of_mem this
theorem sgL_ne{l:List Int}(hg:isGrp l=true):0<(sgL l).length:=by
 have h1:=cycL_ne hg
 have h2:sumF l (nthN (cycL l) 0) (nthN (cycL l) 0)∈pairT l (cycL l) 1:=mem_foldP.2 (Or.inr ⟨0,by omega,rfl⟩)
 have key:∀k,1≤k→sumF l (nthN (cycL l) 0) (nthN (cycL l) 0)∈pairT l (cycL l) k:=by
  intro k hk
  induction k with
  | zero=>omega
  | succ k ih =>
   by_cases e:k=0
   · subst e;exact h2
   · exact mem_foldP.2 (Or.inl (ih (by omega)))
 have h3:=key _ h1
 have key2:∀k,sumF l (nthN (cycL l) 0) (nthN (cycL l) 0)∈tripT l (twoL l) (cycL l) k:=by
  intro k
  induction k with
  | zero=>exact h3
  | succ k ih=>exact mem_foldP.2 (Or.inl ih)
 exact List.length_pos_of_mem (key2 _)
end Go.Zz
namespace Go.Zz
open Go.RowKit Go.Proofs
set_option maxHeartbeats 2000000
set_option maxRecDepth 8000
theorem castL_put(L:List Nat)(n k:Nat):(castL L).take k++[(n:Int)]++(castL L).drop k=castL (putAt L n k):=by
 unfold putAt castL;simp[List.map_take,List.map_drop]
theorem l5Put_two(u:Value)(L:List Nat)(n:Nat)(w:World)(h:Ints w u (castL L))(hL:L.length≤100000) :
 Calls Tryz.prog 146 #[u,.int .i64 n] w fun e w'=>∃v',e=.returned v'∧(v'=u∧putN L n=L∨Own 3 w w' v' (castL (putN L n)))∧Ext w w':=by
 have HI:=Lib.hid (fun W (hW:Ext w W)=>h.ext hW)
 obtain⟨ao,c,adrL,rfl,hadrL,hcellL⟩:=h.nats
 have hixL:=ints_index (c:=c) elI szI hadrL
 have hE:=Ext.refl w
 have hcap:L.length≤c:=by
  obtain⟨_,_,hv,hc,_⟩:=h
  rw[castL_len] at hv hc
  simp only[Value.slice.injEq] at hv
  omega
 have HI:Hid (∀W,Ext w W→Ints W (.slice ao L.length c) (castL L)):=HI
 clear h hadrL
 go_enter Tryz.func146,Tryz.ntmps146
 go_wp2_with fail
 go_loop [5] (fun sk=>∃k:Nat,k≤L.length∧sk=.int .i64 k∧Hid (pkN L n L.length=pkN L n k)) (fun sk=>(intOf sk).toNat)
 case atStart=>exact⟨L.length,Nat.le_refl _,rfl,Lib.hid rfl⟩
 case round =>
  obtain⟨k,hk,rfl,HP⟩:=hrel
  have hc4:k=0∨(∃j,k=j+1∧n<nthN L j)∨(∃j,k=j+1∧nthN L j=n)∨(∃j,k=j+1∧nthN L j<n):=by
   by_cases hk0:k=0
   · exact Or.inl hk0
   · obtain⟨j,rfl⟩:∃j,k=j+1:=⟨k - 1,by omega⟩
     rcases Nat.lt_trichotomy n (nthN L j) with h | h | h
     · exact Or.inr (Or.inl ⟨j,rfl,h⟩)
     · exact Or.inr (Or.inr (Or.inl ⟨j,rfl,h.symm⟩))
     · exact Or.inr (Or.inr (Or.inr ⟨j,rfl,h⟩))
  have Hcell:=Lib.hid hcellL
  clear hcellL
  rcases hc4 with hk0 | ⟨j,rfl,hlt⟩ | ⟨j,rfl,he⟩ | ⟨j,hkj,hlt⟩
  · have Hp:Hid (putN L n=putAt L n k):=Lib.hid (by rw[hk0] at HP ⊢;exact putN_zero HP.out)
    have hkz:¬(0:Int)<(k:Int):=by omega
    clear hk0
    have hsl:=fun W=>run_cut (P:=Tryz.prog) elI szI ao L.length c (k:Int) (by omega) (by omega) W
    have hsa:=fun W=>run_cutAt (P:=Tryz.prog) elI szI ao L.length c (k:Int) (by omega) (by omega) W
    have hfl:=fun W=>run_cutFrom (P:=Tryz.prog) elI szI ao L.length c (k:Int) (by omega) (by omega) W
    have hfa:=fun W=>run_cutFromAt (P:=Tryz.prog) elI szI ao L.length c (k:Int) (by omega) (by omega) W
    rw[show ((k:Int)).toNat=k by omega] at hsl hsa hfl hfa
    have hcl:(castL L).length=L.length:=castL_len L
    have Hpq:Hid (castL (putN L n)=(castL L).take k++[(n:Int)]++(castL L).drop k):=Lib.hid (by rw[Hp.out,castL_put])
    have HA:=Lib.hid (fun W (hW:Ext w W)=>(HI.out W hW).take (k:=k) (by omega))
    have HB:=Lib.hid (fun W (hW:Ext w W)=>(HI.out W hW).drop (k:=k) (by omega))
    have hln1:((castL L).take k).length+[(n:Int)].length≤17592186044416:=by rw[List.length_take,List.length_singleton];omega
    have hln2:((castL L).take k++[(n:Int)]).length+((castL L).drop k).length≤17592186044416:=by rw[List.length_append,List.length_take,List.length_singleton,List.length_drop];omega
    obtain⟨A,hA⟩:∃A,A=(castL L).take k:=⟨_,rfl⟩
    obtain⟨B,hB⟩:∃B,B=(castL L).drop k:=⟨_,rfl⟩
    rw[←hA] at HA hln1 hln2 Hpq
    rw[←hB] at HB hln2 Hpq
    clear hA hB hcl
    go_wp2_with fail
    first | (go_region_held3 (fun W=>Ext w W) (exact (by repeat (first | assumption | exact Ext.refl _ | (apply And.left;assumption) | apply Ext.drew | apply Ext.alloc))) (first | ((refine step_appendsE slI rfl _ _ rfl w w ?_ ?_ (A++[(n:Int)]) (B) ?_ ?_ ?_ hln2 ?_ ?_ ?_);(rotate_left 2);(focus (first | (with_reducible assumption) | ((refine OwnE.ext (w:=?_) ?_ ?_);(rotate_left 1);(focus (with_reducible assumption));repeat (first | assumption | exact Ext.refl _ | (apply And.left;assumption) | apply Ext.drew | apply Ext.alloc))));(rotate_left 2);rfl;rfl;(rotate_left 1);(focus (exact HB.out _ (by repeat (first | assumption | exact Ext.refl _ | (apply And.left;assumption) | apply Ext.drew | apply Ext.alloc))));(focus (repeat (first | assumption | exact Ext.refl _ | (apply And.left;assumption) | apply Ext.drew | apply Ext.alloc)));(intro vF wF hOF hXF hTF)) | ((refine step_appendsE slI rfl _ _ rfl w w ?_ ?_ (A) ([(n:Int)]) ?_ ?_ ?_ hln1 ?_ ?_ ?_);(rotate_left 2);(focus (first | (with_reducible assumption) | ((refine OwnE.ext (w:=?_) ?_ ?_);(rotate_left 1);(focus (with_reducible assumption));repeat (first | assumption | exact Ext.refl _ | (apply And.left;assumption) | apply Ext.drew | apply Ext.alloc))));(rotate_left 2);rfl;rfl;(rotate_left 1);(focus (refine Blk.ints1 (T:=3) ?_;(repeat (first | (with_reducible assumption) | (with_reducible exact Blk.new _ _ _) | ((with_reducible refine Blk.new' ?_);simp[go_sem];done) | (with_reducible apply Blk.alloc) | (with_reducible apply Blk.drew) | (with_reducible refine Blk.ext ?_ hEC)))));(focus (repeat (first | assumption | exact Ext.refl _ | (apply And.left;assumption) | apply Ext.drew | apply Ext.alloc)));(intro vD wD hOD hXD hTD)) | ((refine step_copy2 slI rfl _ _ rfl ?_ ?_ (A) ?_ ?_ ?_ ?_ w ?_ ?_ ?_);(rotate_left 2);rfl;rfl;(focus (repeat (first | (with_reducible assumption) | (with_reducible exact Blk.new _ _ _) | ((with_reducible refine Blk.new' ?_);simp[go_sem];done) | (with_reducible apply Blk.alloc) | (with_reducible apply Blk.drew))));(exact HA.out _ (by repeat (first | assumption | exact Ext.refl _ | (apply And.left;assumption) | apply Ext.drew | apply Ext.alloc)));(focus (first | exact Nat.le_refl _ | omega | (simp;omega)));(focus (repeat (first | assumption | exact Ext.refl _ | (apply And.left;assumption) | apply Ext.drew | apply Ext.alloc)));(intro aoC cC wC hOC hZC hEC;have hXC:=Ext.trans (a:=w) (by repeat (first | assumption | exact Ext.refl _ | (apply And.left;assumption) | apply Ext.drew | apply Ext.alloc)) hEC;have hOEC:OwnE 3 w w wC _ _:=Or.inr hOC)))) | (fail "the region")
    all_goals
     obtain⟨aoN,cN,rfl,hON,hEN⟩:=MiP.of hOF hXF
     go_wp2_with fail
     go_ret
     exact⟨_,rfl,Or.inr (by rw[Hpq.out];exact hON),hEN⟩
  · have hlj:j<L.length:=by omega
    have hck:=Hcell.out j w hlj hE
    obtain⟨Y,hY⟩:∃Y,Y=nthN L j:=⟨_,rfl⟩
    rw[←hY] at hck hlt
    have hixj:=hixL j
    have hw1:IntKind.i64.wrap (((j+1:Nat):Int) - 1)=(j:Int):=by rw[show (((j+1:Nat):Int) - 1)=(j:Int) by omega];exact IntWalk.i64_in _ (by omega)
    have hw2:(((j+1:Nat):Int) - 1)=(j:Int):=by omega
    have hkz:(0:Int)<((j+1:Nat):Int):=by omega
    have Hn:Hid (pkN L n L.length=pkN L n j):=Lib.hid (by rw[HP.out,pkN_down (by rw[←hY];exact hlt)])
    have hq:(n:Int)<(Y:Int):=by omega
    clear hY
    go_wp2_with fail
    go_round
    case rel=>exact⟨j,by omega,by go_num,Hn⟩
    case measure=>(first | (simp[intOf];done) | (simp[intOf];omega))
  · have hlj:j<L.length:=by omega
    have hck:=Hcell.out j w hlj hE
    have Hs:Hid (pkN L n L.length=j+1):=Lib.hid (by rw[HP.out,pkN_stop (by omega)])
    have Hp:Hid (putN L n=L):=Lib.hid (putN_old Hs.out he)
    have hw2:(((j+1:Nat):Int) - 1)=(j:Int):=by omega
    have hkz:(0:Int)<((j+1:Nat):Int):=by omega
    rw[he] at hck
    have hq:¬(n:Int)<(n:Int):=by omega
    clear he
    go_wp2_with fail
    go_ret
    exact⟨_,rfl,Or.inl ⟨rfl,Hp.out⟩,hE⟩
  · have hlj:j<L.length:=by omega
    have hck:=Hcell.out j w hlj hE
    have Hs:Hid (pkN L n L.length=j+1):=Lib.hid (by rw[HP.out,hkj,pkN_stop (by omega)])
    have Hp:Hid (putN L n=putAt L n k):=Lib.hid (by rw[hkj];exact putN_new Hs.out (by omega))
    obtain⟨Y,hY⟩:∃Y,Y=nthN L j:=⟨_,rfl⟩
    rw[←hY] at hck hlt
    have hw2:((k:Int) - 1)=(j:Int):=by omega
    have hkz:(0:Int)<(k:Int):=by omega
    have hq:¬(n:Int)<(Y:Int):=by omega
    have hq2:((Y:Int) == (n:Int))=false:=by rw[beq_eq_false_iff_ne];omega
    have hixj:=hixL j
    have Hs':=Hs
    clear hY hkj Hs Hs'
    have hsl:=fun W=>run_cut (P:=Tryz.prog) elI szI ao L.length c (k:Int) (by omega) (by omega) W
    have hsa:=fun W=>run_cutAt (P:=Tryz.prog) elI szI ao L.length c (k:Int) (by omega) (by omega) W
    have hfl:=fun W=>run_cutFrom (P:=Tryz.prog) elI szI ao L.length c (k:Int) (by omega) (by omega) W
    have hfa:=fun W=>run_cutFromAt (P:=Tryz.prog) elI szI ao L.length c (k:Int) (by omega) (by omega) W
    rw[show ((k:Int)).toNat=k by omega] at hsl hsa hfl hfa
    have hcl:(castL L).length=L.length:=castL_len L
    have Hpq:Hid (castL (putN L n)=(castL L).take k++[(n:Int)]++(castL L).drop k):=Lib.hid (by rw[Hp.out,castL_put])
    have HA:=Lib.hid (fun W (hW:Ext w W)=>(HI.out W hW).take (k:=k) (by omega))
    have HB:=Lib.hid (fun W (hW:Ext w W)=>(HI.out W hW).drop (k:=k) (by omega))
    have hln1:((castL L).take k).length+[(n:Int)].length≤17592186044416:=by rw[List.length_take,List.length_singleton];omega
    have hln2:((castL L).take k++[(n:Int)]).length+((castL L).drop k).length≤17592186044416:=by rw[List.length_append,List.length_take,List.length_singleton,List.length_drop];omega
    obtain⟨A,hA⟩:∃A,A=(castL L).take k:=⟨_,rfl⟩
    obtain⟨B,hB⟩:∃B,B=(castL L).drop k:=⟨_,rfl⟩
    rw[←hA] at HA hln1 hln2 Hpq
    rw[←hB] at HB hln2 Hpq
    clear hA hB hcl
    go_wp2_with fail
    first | (go_region_held3 (fun W=>Ext w W) (exact (by repeat (first | assumption | exact Ext.refl _ | (apply And.left;assumption) | apply Ext.drew | apply Ext.alloc))) (first | ((refine step_appendsE slI rfl _ _ rfl w w ?_ ?_ (A++[(n:Int)]) (B) ?_ ?_ ?_ hln2 ?_ ?_ ?_);(rotate_left 2);(focus (first | (with_reducible assumption) | ((refine OwnE.ext (w:=?_) ?_ ?_);(rotate_left 1);(focus (with_reducible assumption));repeat (first | assumption | exact Ext.refl _ | (apply And.left;assumption) | apply Ext.drew | apply Ext.alloc))));(rotate_left 2);rfl;rfl;(rotate_left 1);(focus (exact HB.out _ (by repeat (first | assumption | exact Ext.refl _ | (apply And.left;assumption) | apply Ext.drew | apply Ext.alloc))));(focus (repeat (first | assumption | exact Ext.refl _ | (apply And.left;assumption) | apply Ext.drew | apply Ext.alloc)));(intro vF wF hOF hXF hTF)) | ((refine step_appendsE slI rfl _ _ rfl w w ?_ ?_ (A) ([(n:Int)]) ?_ ?_ ?_ hln1 ?_ ?_ ?_);(rotate_left 2);(focus (first | (with_reducible assumption) | ((refine OwnE.ext (w:=?_) ?_ ?_);(rotate_left 1);(focus (with_reducible assumption));repeat (first | assumption | exact Ext.refl _ | (apply And.left;assumption) | apply Ext.drew | apply Ext.alloc))));(rotate_left 2);rfl;rfl;(rotate_left 1);(focus (refine Blk.ints1 (T:=3) ?_;(repeat (first | (with_reducible assumption) | (with_reducible exact Blk.new _ _ _) | ((with_reducible refine Blk.new' ?_);simp[go_sem];done) | (with_reducible apply Blk.alloc) | (with_reducible apply Blk.drew) | (with_reducible refine Blk.ext ?_ hEC)))));(focus (repeat (first | assumption | exact Ext.refl _ | (apply And.left;assumption) | apply Ext.drew | apply Ext.alloc)));(intro vD wD hOD hXD hTD)) | ((refine step_copy2 slI rfl _ _ rfl ?_ ?_ (A) ?_ ?_ ?_ ?_ w ?_ ?_ ?_);(rotate_left 2);rfl;rfl;(focus (repeat (first | (with_reducible assumption) | (with_reducible exact Blk.new _ _ _) | ((with_reducible refine Blk.new' ?_);simp[go_sem];done) | (with_reducible apply Blk.alloc) | (with_reducible apply Blk.drew))));(exact HA.out _ (by repeat (first | assumption | exact Ext.refl _ | (apply And.left;assumption) | apply Ext.drew | apply Ext.alloc)));(focus (first | exact Nat.le_refl _ | omega | (simp;omega)));(focus (repeat (first | assumption | exact Ext.refl _ | (apply And.left;assumption) | apply Ext.drew | apply Ext.alloc)));(intro aoC cC wC hOC hZC hEC;have hXC:=Ext.trans (a:=w) (by repeat (first | assumption | exact Ext.refl _ | (apply And.left;assumption) | apply Ext.drew | apply Ext.alloc)) hEC;have hOEC:OwnE 3 w w wC _ _:=Or.inr hOC)))) | (fail "the region")
    all_goals
     obtain⟨aoN,cN,rfl,hON,hEN⟩:=MiP.of hOF hXF
     go_wp2_with fail
     go_ret
     exact⟨_,rfl,Or.inr (by rw[Hpq.out];exact hON),hEN⟩
theorem l5Put_own(u:Value)(L:List Nat)(n:Nat)(w0 w:World)(h:Own 3 w0 w u (castL L))(hs:w0.heap.size≤w.heap.size)(hL:L.length≤100000) :
 Calls Tryz.prog 146 #[u,.int .i64 n] w fun e w'=>∃v',e=.returned v'∧Own 3 w0 w' v' (castL (putN L n))∧Ext w w' :=
 (l5Put_two u L n w h.ints hL).mono fun e w' ⟨v',he,h1,hE⟩=>⟨v',he,by
  rcases h1 with ⟨rfl,h2⟩ | h1
  · rw[h2];exact h.ext hE
  · exact⟨ownsRow_mono h1.1 hs,h1.2⟩,hE⟩
end Go.Zz
namespace Go.Zz
open Go
theorem takeOn{P:Program}{ops:Array Oper}{Q:Exit→Act→World→Prop}{md:Region.Mode}{S:World→Prop}{i:Nat}{oi:Oper}{v:Value}{fuel:Nat}{listed:Array Bool}{a:Act}{w:World}
 (hr:(Region.ready md ops listed).contains i=true) (hi:ops[i]?=some oi) (hw:Region.wanted oi (yielded ops a.tmps)=true) (hf:Region.free md ops listed i=true) (hs:Region.noSelect ops=true)
 (hQ:∀c a w,Q (.panic c) (a.put oi.dst v) w→Q (.panic c) a w) (hy:∀w,S w→(execOp a.eval oi).run P w=.ok (.value v) w) (hS:S w)
 (h:wpAnyH P md ops Q S fuel (listed.setIfInBounds i true) (a.put oi.dst v) w):wpAnyH P md ops Q S (fuel+1) listed a w :=
 wpAnyH_take hi hs hf hr hQ (Or.inl ⟨hw,hy⟩) hS h
theorem takeOne{P:Program}{ops:Array Oper}{Q:Exit→Act→World→Prop}{md:Region.Mode}{S:World→Prop}{i:Nat}{oi:Oper}{fuel:Nat}{listed:Array Bool}{a:Act}{w:World}
 (hr:Region.ready md ops listed=[i]) (hi:ops[i]?=some oi) (hw:Region.wanted oi (yielded ops a.tmps)=true)
 (h:∀K':Act→World→Prop,Shut (∀a w,S w→(S w→wpAnyH P md ops Q S fuel (listed.setIfInBounds i true) a w)→K' a w)→Oper.wp P oi a w K' Q):wpAnyH P md ops Q S (fuel+1) listed a w :=
 wpAnyH_ready hr (by simp) (AllReadyH.cons hi (fun K hK=>by rw[if_pos hw];exact h K hK) AllReadyH.nil)
end Go.Zz
