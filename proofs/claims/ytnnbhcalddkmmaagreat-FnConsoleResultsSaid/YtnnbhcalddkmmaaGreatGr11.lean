/- Sorting by insertion: l16Sort of the reference. -/
import Derived.Test.YtnnbhcalddkmmaaGreatGr10
import Derived.Test.YtnnbhcalddkmmaaGreatGr6
import Derived.Test.YtnnbhcalddkmmaaGreatGr8
import Derived.Deep.RegionHeld3
import Derived.Deep.RegionWith
import Derived.Test.YtnnbhcalddkmmaaGreatGr3
import Derived.Test.YtnnbhcalddkmmaaGreatGr4
import Derived.Laws.DeepStrings4
namespace Go.Zz
open Go.RowKit Go.Proofs
set_option maxHeartbeats 4000000
set_option maxRecDepth 8000
end Go.Zz
namespace Go.Zz
open Go.RowKit Go.Proofs
set_option maxHeartbeats 1000000
set_option maxRecDepth 20000
theorem d15(a b:Int)(w:World) :
 Calls Tryz.prog 305 #[.int .i64 a,.int .i64 b] w fun e w'=>e=.returned (.bool (decide (a<b)))∧w=w':=by
 have hn:∀(x:Int) (W:World),Calls Tryz.prog 349 #[.int .i64 x] W fun e w'=>e=.returned (.bool false)∧W=w':=fun x W=>by
  go_enter Tryz.func349,Tryz.ntmps349
  go_wp2_with fail
  go_ret
  exact⟨by simp,rfl⟩
 have hd:∃d,d=decide (a<b):=⟨_,rfl⟩;go_enter Tryz.func305,Tryz.ntmps305;go_wp2_with (first | (go_at_call 349;refine (hn _ _).mono ?_;rintro e w' ⟨rfl,rfl⟩));go_ret;exact⟨rfl,rfl⟩
theorem bz9(a b:Int)(w:World){c:Bool}(hc:decide (a<b)=c) :
 Calls Tryz.prog 305 #[.int .i64 a,.int .i64 b] w fun e w'=>e=.returned (.bool c)∧w=w':=by subst hc;exact d15 a b w
theorem bv8(u:Value)(xs:List Int)(w:World)(h:c8 w u xs) :
 Calls Tryz.prog 232 #[u] w fun e w'=>e=.returned (.bool (b36 xs))∧Ext w w':=by
 obtain⟨ao,c,adr,rfl,hlen,hadr,hcell⟩:=h.op;have hix:=j6 (c:=c) elI szI hadr;have Hit:=Lib.hid (bv9 xs);have Hno:Hid (∀j,0<j→j<xs.length→nth xs j<nth xs (j - 1)→b36 xs=false):=Lib.hid fun j a b c=>cx9 a b c;have hE:=Ext.refl w;clear h hadr;go_enter Tryz.func232,Tryz.ntmps232;go_wp2_with fail;go_loopw [3] (fun i wr=>∃z:Int,z<(xs.length:Int) ∧ -1≤z∧i=.int .i64 z∧(∀j:Nat,z<(j:Int)→j<xs.length→nth xs (j - 1)≤nth xs j)∧Ext w wr) (fun i _=>(intOf i).toNat);case atStart=>exact⟨_,by omega,by omega,rfl,fun j h1 h2=>by omega,hE⟩
 case round =>
  clear hE;obtain⟨z,hz1,hz2,rfl,hall,hE⟩:=hrel;have Hall:=Lib.hid hall;clear hall;by_cases hp:0<z
  · obtain⟨k,rfl⟩:=Int.eq_ofNat_of_zero_le (show 0≤z by omega);have hk:k<xs.length:=(by omega);have hk0:0<k:=(by omega);obtain⟨q,hq⟩:∃q,q+1=k:=⟨k - 1,by omega⟩;have hw:IntKind.i64.wrap ((k:Int) - 1)=(q:Int):=(by rw[←hq];exact (IntWalk.i64_in _ (by omega)).trans (by omega));have hql:q<xs.length:=(by omega);have hck:=fun U=>hcell k _ hk (hE.trans (b9 wr U));have hcq:=fun U=>hcell q _ hql (hE.trans (b9 wr U));have Hqk:=Lib.hid (show q=k - 1 by omega);clear hq;have hE1:=hE;clear hE;have hE:=Ext.refl wr;cases hd:decide (nth xs k<nth xs q)
    · have Hd:=Lib.hid (of_decide_eq_false hd);go_wp2_with fail;(refine d0 (wr) (by kernel_rfl) (by kernel_rfl) hE ?_);(repeat (go_big_quiet_step (first | (go_at_call 305;exact Calls.lat_same (bz9 _ _ _ hd)))));(refine wpQuiet_nil ?_);(intro W hE');(replace hE:=l7 hE');(clear hE');go_wp2_with fail;go_roundw;(case rel=>exact⟨(q:Int),by have:=Hqk.out;omega,by omega,rfl,fun j h1 h2=>by by_cases e:j=k;(subst e;have:=Hd.out;rw[Hqk.out] at this;omega);exact Hall.out j (by have:=Hqk.out;omega) h2,hE1.trans hE⟩);case measure=>(have:=Hqk.out;simp[intOf];omega)
    · have Hd:Hid (b36 xs=false):=Lib.hid (Hno.out k hk0 hk (by rw[←Hqk.out];exact of_decide_eq_true hd));go_wp2_with fail;(refine d0 (wr) (by kernel_rfl) (by kernel_rfl) hE ?_);(repeat (go_big_quiet_step (first | (go_at_call 305;exact Calls.lat_same (bz9 _ _ _ hd)))));(refine wpQuiet_nil ?_);(intro W hE');(replace hE:=l7 hE');(clear hE');go_wp2_with fail;go_ret;exact⟨l9 Hd.out.symm,hE1.trans hE⟩
  · have Hz:Hid (b36 xs=true):=Lib.hid (Hit.out.2 fun j h0 hj=>Hall.out j (by omega) hj);go_wp2_with fail;go_ret;exact⟨l9 Hz.out.symm,hE⟩
theorem bf6(v:Value)(l:List Int)(w:World)(h:c8 w v l){c:Bool}(hc:c9 l=c) :
 Calls Tryz.prog 94 #[.agg #[v]] w fun e w'=>e=.returned (.bool c)∧Ext w w':=by subst hc;exact l0 v l w h
theorem ca7(v u:Value)(l xs:List Int)(w:World)(h:c8 w v l)(hu:c8 w u xs) :
 Calls Tryz.prog 124 #[.agg #[v],u] w fun e w'=>e=.returned (.bool (L2 l xs))∧Ext w w':=by
 obtain⟨wb,Hwb,hE0,hb,hg,hE,-⟩:=j60 28 h;have hgu:Hid (∀W,Ext wb W→c8 W u xs):=Lib.hid fun W hW=>hu.ext (hE0.trans hW);clear h;obtain⟨ao,c,adr,rfl,hlen,hadr,hcell⟩:=(hgu.out wb hE).op;have hix:=j6 (c:=c) elI szI hadr;have Hhas:Hid (∀k,k<xs.length→K2 l (nth xs k)=false→L2 l xs=false):=Lib.hid fun k a b=>cx7 a b;have Hend:=Lib.hid (fun h=>cx6 (l:=l) (xs:=xs) h);clear hadr hu;go_enter Tryz.func124,Tryz.ntmps124;go_wp2_with fail;rw[←Hwb.out];go_loopw [9] (fun i wr=>∃k:Nat,k≤xs.length∧i=.int .i64 k∧(∀j,j<k→K2 l (nth xs j)=true)∧Ext wb wr) (fun i _=>xs.length - (intOf i).toNat);case atStart=>exact⟨0,by omega,rfl,by omega,hE⟩
 case round =>
  clear hE;obtain⟨k,hk,rfl,hall,hE⟩:=hrel;have Hall:=Lib.hid hall;clear hall;have hbx:=hb _ hE;by_cases hlt:k<xs.length
  · have hck:=hcell k _ hlt hE;cases hh:K2 l (nth xs k)
    · have Hz:=Lib.hid (Hhas.out k hlt hh);go_wp2_with (first | (go_at_call 231;refine cx (cc2 _ _ _ _ (hg _ hE) (hh)) hE ?_;clear hE;intro w' hE));go_ret;exact⟨l9 Hz.out.symm,hE0.trans hE⟩
    · have Hk:=Lib.hid hh;go_wp2_with (first | (go_at_call 231;refine cx (cc2 _ _ _ _ (hg _ hE) (hh)) hE ?_;clear hE;intro w' hE));go_roundw;(case rel=>exact⟨k+1,by omega,by go_num,fun j hj=>by by_cases e:j=k;(subst e;exact Hk.out);exact Hall.out j (by omega),hE⟩);case measure=>(simp[intOf];omega)
  · have hkl:k=xs.length:=(by omega);subst hkl;have He:=Lib.hid (Hend.out Hall.out);cases hgr:c9 l
    · have Hz:Hid (L2 l xs=false):=Lib.hid (by rw[He.out,hgr];rfl);go_wp2_with (first | (go_at_call 94;refine cx (bf6 _ _ _ (hg _ hE) hgr) hE ?_;clear hE;intro w' hE));go_ret;exact⟨l9 Hz.out.symm,hE0.trans hE⟩
    · by_cases h12:xs.length≤12
      · have Hz:Hid (L2 l xs=b36 xs):=Lib.hid (by rw[He.out,hgr,decide_eq_true h12];rfl);go_wp2_with (first | (go_at_call 94;refine cx (bf6 _ _ _ (hg _ hE) hgr) hE ?_;clear hE;intro w' hE) | (go_at_call 232;refine cx (bv8 _ _ _ (hgu.out _ hE)) hE ?_;clear hE;intro w' hE));go_ret;exact⟨l9 Hz.out.symm,hE0.trans hE⟩
      · have Hz:Hid (L2 l xs=false):=Lib.hid (by rw[He.out,hgr,decide_eq_false h12];rfl);have h12':¬(xs.length:Int)≤12:=(by omega);go_wp2_with (first | (go_at_call 94;refine cx (bf6 _ _ _ (hg _ hE) hgr) hE ?_;clear hE;intro w' hE));go_ret;exact⟨l9 Hz.out.symm,hE0.trans hE⟩
theorem bh1(v u:Value)(l xs:List Int)(w:World)(h:c8 w v l)(hu:c8 w u xs){c:Bool}(hc:L2 l xs=c) :
 Calls Tryz.prog 124 #[.agg #[v],u] w fun e w'=>e=.returned (.bool c)∧Ext w w':=by subst hc;exact ca7 v u l xs w h hu
theorem bc1(v:Value)(l:List Int)(w:World)(h:c8 w v l){c:Bool}(hc:c9 l=c) :
 Calls Tryz.prog 42 #[.agg #[v]] w fun e w'=>e=.returned (.bool c)∧Ext w w':=by subst hc;exact q9 v l w h
theorem c91(v u:Value)(l xs:List Int)(w:World)(h:c8 w v l)(hu:c8 w u xs) :
 Calls Tryz.prog 133 #[.agg #[v],u] w fun e w'=>e=.returned (.bool (L2 l xs))∧Ext w w':=by
 obtain⟨wb,Hwb,hE0,hb,hg,hE,-⟩:=j60 28 h;have hgu:Hid (∀W,Ext wb W→c8 W u xs):=Lib.hid fun W hW=>hu.ext (hE0.trans hW);clear h;obtain⟨ao,c,adr,rfl,hlen,hadr,hcell⟩:=(hgu.out wb hE).op;have hix:=j6 (c:=c) elI szI hadr;have Hhas:Hid (∀k,k<xs.length→K2 l (nth xs k)=false→L2 l xs=false):=Lib.hid fun k a b=>cx7 a b;have Hdown:Hid (∀k,0<k→k<xs.length→nth xs k<nth xs (k - 1)→L2 l xs=false):=Lib.hid fun k a b c=>di5 a b c;have Hend:=Lib.hid (fun h=>cx6 (l:=l) (xs:=xs) h);have Hit:=Lib.hid (bv9 xs);clear hadr hu;go_enter Tryz.func133,Tryz.ntmps133;go_wp2_with fail;rw[←Hwb.out];go_loopw [5] (fun i wr=>∃k:Nat,k≤xs.length∧i=.int .i64 k∧(∀j,j<k→K2 l (nth xs j)=true∧(0<j→nth xs (j - 1)≤nth xs j))∧Ext wb wr) (fun i _=>xs.length - (intOf i).toNat);case atStart=>exact⟨0,by omega,rfl,by omega,hE⟩
 case round =>
  clear hE;obtain⟨k,hk,rfl,hall,hE⟩:=hrel;have Hall:=Lib.hid hall;clear hall;by_cases hlt:k<xs.length
  · have hck:=fun U=>hcell k _ hlt (hE.trans (b9 wr U));have hbu:=fun U=>hb _ (hE.trans (b9 wr U));have hgr':∀W,Ext wr W→c8 W v l:=fun W hW=>hg W (hE.trans hW);have hE1:=hE;clear hE;have hE:=Ext.refl wr;cases hh:K2 l (nth xs k)
    · have Hz:=Lib.hid (Hhas.out k hlt hh);go_wp2_with fail;(refine d0 (wr) (by kernel_rfl) (by kernel_rfl) hE ?_);(repeat (go_big_quiet_step (first | (go_at_call 243;exact Calls.lat (b11 _ _ _ _ (hgr' _ (b9 wr _)) (hh))))));(refine wpQuiet_nil ?_);(intro W hE');(replace hE:=l7 hE');(clear hE');go_wp2_with fail;go_ret;exact⟨l9 Hz.out.symm,hE0.trans (hE1.trans hE)⟩
    · have Hk:=Lib.hid hh;by_cases h0:k=0
      · have Hk0:=Lib.hid h0;have hd0:¬(0:Int)<(k:Int):=(by omega);have hdn:¬0<k:=(by omega);clear h0;go_wp2_with fail;(refine d0 (wr) (by kernel_rfl) (by kernel_rfl) hE ?_);(repeat (go_big_quiet_step (first | (go_at_call 243;exact Calls.lat (b11 _ _ _ _ (hgr' _ (b9 wr _)) (hh))))));(refine wpQuiet_nil ?_);(intro W hE');(replace hE:=l7 hE');(clear hE');go_wp2_with fail;go_roundw;(case rel=>exact⟨k+1,by omega,by go_num,fun j hj=>by by_cases e:j=k;(subst e;exact⟨Hk.out,fun h=>by have:=Hk0.out;omega⟩);exact Hall.out j (by omega),hE1.trans hE⟩);case measure=>(simp[intOf];omega)
      · have hd0:(0:Int)<(k:Int):=(by omega);have hk0:0<k:=(by omega);clear h0;obtain⟨q,hq⟩:∃q,q+1=k:=⟨k - 1,by omega⟩;have hw:IntKind.i64.wrap ((k:Int) - 1)=(q:Int):=(by rw[←hq];exact (IntWalk.i64_in _ (by omega)).trans (by omega));have hql:q<xs.length:=(by omega);have hcq:=fun U=>hcell q _ hql (hE1.trans (b9 wr U));have Hqk:=Lib.hid (show q=k - 1 by omega);clear hq;cases hd:decide (nth xs k<nth xs q)
        · have Hd:=Lib.hid (of_decide_eq_false hd);go_wp2_with fail;(refine d0 (wr) (by kernel_rfl) (by kernel_rfl) hE ?_);(repeat (go_big_quiet_step (first | (go_at_call 243;exact Calls.lat (b11 _ _ _ _ (hgr' _ (b9 wr _)) (hh))))));(refine wpQuiet_nil ?_);(intro W hE');(replace hE:=l7 hE');(clear hE');go_wp2_with fail;go_roundw;(case rel=>exact⟨k+1,by omega,by go_num,fun j hj=>by by_cases e:j=k;(subst e;exact⟨Hk.out,fun _=>by have:=Hd.out;rw[Hqk.out] at this;omega⟩);exact Hall.out j (by omega),hE1.trans hE⟩);case measure=>(simp[intOf];omega)
        · have Hz:=Lib.hid (Hdown.out k hk0 hlt (by rw[←Hqk.out];exact of_decide_eq_true hd));go_wp2_with fail;(refine d0 (wr) (by kernel_rfl) (by kernel_rfl) hE ?_);(repeat (go_big_quiet_step (first | (go_at_call 243;exact Calls.lat (b11 _ _ _ _ (hgr' _ (b9 wr _)) (hh))))));(refine wpQuiet_nil ?_);(intro W hE');(replace hE:=l7 hE');(clear hE');go_wp2_with fail;go_ret;exact⟨l9 Hz.out.symm,hE0.trans (hE1.trans hE)⟩
  · have hkl:k=xs.length:=(by omega);subst hkl;have hbx:=hb _ hE;have He:=Lib.hid (Hend.out fun j hj=>(Hall.out j hj).1);have Hs:Hid (b36 xs=true):=Lib.hid (Hit.out.2 fun j h0 hj=>(Hall.out j hj).2 h0);cases hgr:c9 l
    · have Hz:Hid (L2 l xs=false):=Lib.hid (by rw[He.out,hgr];rfl);go_wp2_with (first | (go_at_call 42;refine cx (bc1 _ _ _ (hg _ hE) hgr) hE ?_;clear hE;intro w' hE));go_ret;exact⟨l9 Hz.out.symm,hE0.trans hE⟩
    · by_cases h12:xs.length≤12
      · have Hz:Hid (L2 l xs=true):=Lib.hid (by rw[He.out,hgr,decide_eq_true h12,Hs.out];rfl);go_wp2_with (first | (go_at_call 42;refine cx (bc1 _ _ _ (hg _ hE) hgr) hE ?_;clear hE;intro w' hE));go_ret;exact⟨l9 (by rw[Hz.out];exact decide_eq_true (by omega)),hE0.trans hE⟩
      · have Hz:Hid (L2 l xs=false):=Lib.hid (by rw[He.out,hgr,decide_eq_false h12];rfl);go_wp2_with (first | (go_at_call 42;refine cx (bc1 _ _ _ (hg _ hE) hgr) hE ?_;clear hE;intro w' hE));go_ret;exact⟨l9 (by rw[Hz.out];exact decide_eq_false (by omega)),hE0.trans hE⟩
theorem be8(v u:Value)(l xs:List Int)(w:World)(h:c8 w v l)(hu:c8 w u xs){c:Bool}(hc:L2 l xs=c) :
 Calls Tryz.prog 133 #[.agg #[v],u] w fun e w'=>e=.returned (.bool c)∧Ext w w':=by subst hc;exact c91 v u l xs w h hu
end Go.Zz
namespace Go.Zz
open Go.RowKit Go.Proofs
set_option maxHeartbeats 400000
set_option maxRecDepth 4000
def be6:ByteArray:=⟨#[110,111,110,101]⟩
def Q5:ByteArray:=⟨#[49]⟩
def mtB:ByteArray:=⟨#[]⟩
theorem j03{n:Int}(h:0≤n∧n<100):(j0 n).size≤2:=by
 unfold j0;split
 · decide
 · rw[if_neg (by omega),b07,strOfNums_size,List.length_reverse];exact cw6 2 _ (by omega)
theorem dn2(s:ByteArray)(f:Nat→ByteArray)(hs:s.size≤1):∀k,(∀i,i<k→(f i).size≤2)→(jn s f k).size≤3*k:=by
 intro k;induction k with
 | zero=>intro _;exact Nat.le_refl _
 | succ k ih =>
  intro h;have h1:=ih (fun i hi=>h i (by omega));have h2:=h k (by omega);unfold jn;split<;>simp only[ByteArray.size_append]<;>omega
theorem j01(l:List Int):(fgF l).size≤10:=by
 cases hg:c9 l
 · rw[ba7 hg];decide
 · rw[b18 hg];split
   · decide
   · have:=dn2 ex (fun i=>j0 (nth l i)) (by decide) _ (fun i hi=>j03 (by have:=E2 hg hi;omega));have:=C0 hg;omega
def pIs(L:List ByteArray):List Int:=L.map fun t=>(pI t).1
theorem dp3(L:List ByteArray)(k:Nat)(h:k<L.length):pIs (L.take (k+1))=pIs (L.take k)++[(pI (m6 L k)).1]:=by
 unfold pIs;rw[List.take_add_one,List.map_append];simp[m6,List.getD,h]
def pgB(s:ByteArray):Bool:=decide (s=Q5) || (decide (¬s=mtB)&&decide (fgF (pIs (B7 120 s))=s))
def pgV(s:ByteArray):List Int:=if s=Q5 then [] else if pgB s then pIs (B7 120 s) else []
theorem dh4{s:ByteArray}(h:s=Q5):pgB s=true∧pgV s=[]:=⟨by unfold pgB;rw[decide_eq_true h];rfl,if_pos h⟩
theorem da3{s:ByteArray}(h:s=mtB):pgB s=false∧pgV s=[]:=by
 subst h;have h1:¬mtB=Q5:=by decide
 have hb:pgB mtB=false:=by unfold pgB;rw[decide_eq_false h1,decide_eq_false (fun q=>q rfl)];rfl
 exact⟨hb,by unfold pgV;rw[if_neg h1,hb];rfl⟩
theorem cm3{s:ByteArray}(h1:¬s=Q5)(h:¬fgF (pIs (B7 120 s))=s):pgB s=false∧pgV s=[]:=by
 have hb:pgB s=false:=by unfold pgB;rw[decide_eq_false h1,decide_eq_false h];simp
 exact⟨hb,by unfold pgV;rw[if_neg h1,hb];rfl⟩
theorem cv8{s:ByteArray}(h1:¬s=Q5)(h2:¬s=mtB)(h:fgF (pIs (B7 120 s))=s):pgB s=true∧pgV s=pIs (B7 120 s):=by
 have hb:pgB s=true:=by unfold pgB;rw[decide_eq_true h,decide_eq_true h2];simp
 exact⟨hb,by unfold pgV;rw[if_neg h1,hb];rfl⟩
theorem dx0{s:ByteArray}(h:10<s.size):pgB s=false∧pgV s=[]:=by
 refine cm3 (fun e=>?_) (fun e=>?_)
 · rw[e] at h;exact absurd h (by decide)
 · have:=j01 (pIs (B7 120 s));rw[e] at this;omega
theorem j18{s:ByteArray}(h2:¬s=Q5){k:Nat}(hk:k<(B7 120 s).length)(h:(pI (m6 (B7 120 s) k)).2=false):pgB s=false∧pgV s=[]:=by
 by_cases hm:s=mtB
 · exact da3 hm
 · refine cm3 h2 fun e=>hm ?_;rw[ba7] at e
   · exact e.symm
   · rw[Bool.eq_false_iff];intro g;have hl:k<(pIs (B7 120 s)).length:=(by unfold pIs;rw[List.length_map];exact hk);have h3:=E2 g hl;have e2:nth (pIs (B7 120 s)) k=(pI (m6 (B7 120 s) k)).1:=(by simp[pIs,nth,m6,List.getD,hk]);have e3:pI (m6 (B7 120 s) k)=(0,false):=by
      unfold pI at h ⊢;split at h
      · cases h
      · rename_i q;rw[if_neg q]
     rw[e2,e3] at h3;exact absurd h3.1 (by decide)
def W3(l:List Int):List ByteArray→Nat→Option Nat
 | [],a=>some a
 | t :: r,a=>if (pI t).2=true∧K2 l (pI t).1=true then W3 l r (a ||| 2 ^ (pI t).1.toNat) else none
def psX(l:List Int)(s:ByteArray):Int × Bool :=
 match W3 l (B7 44 s) 0 with
 | none=>(0,false)
 | some a=>if fsF l a=s then ((a:Int),true) else (0,false)
def psV(l:List Int)(s:ByteArray):Int × Bool:=if s=be6 then (0,c9 l) else psX l s
theorem dx2{l:List Int}{s:ByteArray}(h:s=be6):psV l s=(0,c9 l):=if_pos h
theorem j19{l:List Int}{s:ByteArray}(h:¬s=be6)(h2:W3 l (B7 44 s) 0=none):psV l s=(0,false):=by
 unfold psV psX;rw[if_neg h,h2]
theorem dh8{l:List Int}{s:ByteArray}{a:Nat}(h:¬s=be6)(h2:W3 l (B7 44 s) 0=some a):psV l s=if fsF l a=s then ((a:Int),true) else (0,false):=by
 unfold psV psX;rw[if_neg h,h2]
theorem d69{l:List Int}{t:ByteArray}{r:List ByteArray}{a n:Nat}(h:(pI t).2=true)(h2:K2 l (pI t).1=true)(hn:(pI t).1=n):W3 l (t :: r) a=W3 l r (a ||| 2 ^ n):=by
 show (if _ then _ else _)=_;rw[if_pos ⟨h,h2⟩,hn];rfl
theorem cc9{l:List Int}{t:ByteArray}{r:List ByteArray}{a:Nat}(h:¬((pI t).2=true∧K2 l (pI t).1=true)):W3 l (t :: r) a=none:=by
 show (if _ then _ else _)=_;rw[if_neg h]
end Go.Zz
namespace Go.Zz
open Go.RowKit Go.Proofs
set_option maxHeartbeats 400000
set_option maxRecDepth 4000
theorem c32(s:ByteArray)(f:Nat→ByteArray)(hs:s.size≤1):∀k,(∀i,i<k→(f i).size≤5000)→(jn s f k).size≤5001*k:=by
 intro k;induction k with
 | zero=>intro _;exact Nat.le_refl _
 | succ k ih =>
  intro h;have h1:=ih (fun i hi=>h i (by omega));have h2:=h k (by omega);unfold jn;split<;>simp only[ByteArray.size_append]<;>omega
def spB:ByteArray:=⟨#[32]⟩
def F9(l:List ByteArray):ByteArray:=jn spB (m6 l) l.length
theorem cg9(v:Value)(l:List ByteArray)(s:ByteArray)(w:World)(h:S5 w v l)(hs:s.size≤1)(hl:∀i,i<l.length→(m6 l i).size≤5000)(hn:l.length≤100) :
 Calls Tryz.prog 210 #[v,.string s] w fun e w'=>e=.returned (.string (jn s (m6 l) l.length))∧w=w':=by
 obtain⟨ao,c,rfl,hlen,hcell⟩:=h;have hix:∀(i:Nat) W,i<l.length→∃g,ao=some ⟨g,0,none⟩∧(Instr.indexAt 24 (.slice ao l.length c) (.int .i64 (i:Int))).run Tryz.prog W=.ok (.pointer (some ⟨g,i,none⟩)) W:=by
  intro i W hi;obtain⟨g,rfl,-⟩:=hcell i hi;refine⟨g,rfl,?_⟩;rw[run_indexAt_slice (h:=elS),if_pos (by omega),szS];simp[Result.andThen,Addr.add_lit]
 have Hl:=Lib.hid hl;clear hl;go_enter Tryz.func210,Tryz.ntmps210;go_wp2_with fail;go_loop [5,10] (fun t i=>∃(k:Nat) (u:ByteArray),k≤l.length∧i=.int .i64 k∧t=.string u∧Hid (u=jn s (m6 l) k)) (fun _ i=>l.length - (intOf i).toNat);case atStart=>exact⟨0,_,by omega,rfl,rfl,Lib.hid rfl⟩
 case round =>
  obtain⟨k,u,hk,rfl,rfl,Hu⟩:=hrel;have hus:u.size≤5001*k:=by rw[Hu.out];exact c32 _ _ hs k fun i hi=>Hl.out i (by omega)
  by_cases hlt:k<l.length
  · obtain⟨g,hg,hix1⟩:=hix k w hlt;obtain⟨g',hg',hck⟩:=hcell k hlt;have hgg:g'=g:=(by rw[hg] at hg';simp only[Option.some.injEq,Addr.mk.injEq,and_true] at hg';exact hg'.symm);subst hgg;clear hix hcell;subst hg;have hys:=Hl.out k hlt;obtain⟨y,hy⟩:∃y,y=m6 l k:=⟨_,rfl⟩;rw[←hy] at hck hys;have Hy:=Lib.hid hy;clear hy;by_cases hk0:0<k
    · have hk1:(0:Int)<k:=(by omega);go_wp2_with fail;go_round;(case rel=>exact⟨k+1,_,by omega,by go_num,rfl,Lib.hid (by rw[T9 _ _ hk0,←Hu.out,Hy.out])⟩);case measure=>(simp[intOf];omega)
    · have hk1:k=0:=(by omega);subst hk1;go_wp2_with fail;go_round;(case rel=>exact⟨1,_,by omega,rfl,rfl,Lib.hid (by rw[T0,Hu.out,Hy.out];rfl)⟩);case measure=>(simp[intOf];omega)
  · have hkl:k=l.length:=(by omega);subst hkl;clear hix hcell;go_wp2_with fail;go_ret;exact⟨d9 Hu.out,rfl⟩
theorem c34(v:Value)(l:List ByteArray)(w:World)(h:S5 w v l)(hl:∀i,i<l.length→(m6 l i).size≤5000)(hn:l.length≤100) :
 Calls Tryz.prog 96 #[v] w fun e w'=>e=.returned (.string (F9 l))∧w=w':=by
 have hc:=cg9 v l spB w h (by decide) hl hn;go_enter Tryz.func96,Tryz.ntmps96;go_wp2_with (refine hc.mono ?_;rintro e w' ⟨rfl,rfl⟩);go_ret;exact⟨rfl,rfl⟩
theorem bn9(w:World)(l:List ByteArray)(T:TypeId)(hn:l.length≤1000000):S5 (w.alloc (.cells (l.map Value.string).toArray T)) (.slice (some ⟨w.heap.size,0,none⟩) l.length l.length) l:=by
 refine⟨_,l.length,rfl,hn,fun i hi=>⟨_,rfl,?_⟩⟩;have:=(Blk.new w T (l.map Value.string).toArray).cell (i:=i) (v:=.string (m6 l i)) (by simp[m6,List.getD,hi]);exact this
theorem S5.ext{w w':World}{v:Value}{l:List ByteArray}(h:S5 w v l)(hE:Ext w w'):S5 w' v l:=by
 obtain⟨ao,c,rfl,hn,hc⟩:=h;exact⟨ao,c,rfl,hn,fun i hi=>by obtain⟨g,rfl,hcc⟩:=hc i hi;exact⟨g,rfl,hE.cell hcc⟩⟩
end Go.Zz
namespace Go.Zz
open Go.RowKit Go.Proofs
set_option maxHeartbeats 1000000
set_option maxRecDepth 4000
theorem bh7(s:ByteArray)(c:Int)(w:World)(hs:s.size≤100000) :
 Calls Tryz.prog 53 #[.string s,.int .u8 c] w fun e w'=>∃v,e=.returned v∧J0 w w' v (B7 c s)∧Ext w w':=by
 have hO0:=b62 (Ext.refl w);have hE0:=(Ext.refl w).alloc (.cells #[] 9);go_enter Tryz.func53,Tryz.ntmps53;go_wp2_with fail;go_loopw [5,6,7] (fun ov fv iv wr=>∃(k f:Nat) (L:List ByteArray),f≤k∧k≤s.size∧L.length≤k∧iv=.int .i64 k∧fv=.int .i64 f∧J0 w wr ov L∧Ext w wr∧Hid (L++V9 c s k (s.extract f k)=B7 c s)) (fun _ _ iv _=>s.size - (intOf iv).toNat);case atStart=>exact⟨0,0,[],by omega,by omega,by simp,rfl,rfl,hO0,hE0,Lib.hid (by rw[cr5];rfl)⟩
 case round =>
  obtain⟨k,f,L,hf,hk,hL,rfl,rfl,hO,hE,H⟩:=hrel;have hLn:L.length<1000000:=by omega
  by_cases hlt:k<s.size
  · obtain⟨b,hb⟩:∃b,b=bt s k:=⟨_,rfl⟩;have hx:(s[k]'hlt).toNat=b:=(by rw[bd3,hb]);have Hb:=Lib.hid hb;clear hb;by_cases hc:(b:Int)=c
    · have hcb:((b:Int) == c)=true:=(by rw[beq_iff_eq];exact hc);have Hc:Hid (L++[s.extract f k]++V9 c s (k+1) (s.extract (k+1) (k+1))=B7 c s):=Lib.hid (by
       rw[←H.out,c23 c s k _ hlt (by rw[←Hb.out];exact hc),cr5];simp)
      clear hc;go_wp2_with (at_builtin;refine O0 rfl _ _ rfl w _ _ _ _ hO hE hLn rfl rfl ?_;intro v1 w1 hO1 hE1);go_roundw;(case rel=>exact⟨k+1,k+1,_,by omega,by omega,by simp;omega,by go_num,by go_num,hO1,hE1,Hc⟩);case measure=>(simp[intOf];omega)
    · have hcb:((b:Int) == c)=false:=(by rw[beq_eq_false_iff_ne];exact hc);have Hc:Hid (L++V9 c s (k+1) (s.extract f (k+1))=B7 c s):=Lib.hid (by
       rw[←H.out,br4 c s k _ hlt (by rw[←Hb.out];exact hc),dl9 s f k hf])
      clear hc;go_wp2_with fail;go_roundw;(case rel=>exact⟨k+1,f,L,by omega,by omega,by omega,by go_num,rfl,hO,hE,Hc⟩);case measure=>(simp[intOf];omega)
  · have hkl:k=s.size:=(by omega);subst hkl;have He:Hid (L++[s.extract f s.size]=B7 c s):=Lib.hid (by rw[←H.out,c22 c s _ _ (Nat.le_refl _)]);go_wp2_with (at_builtin;refine O0 rfl _ _ rfl w _ _ _ _ hO hE hLn rfl rfl ?_;intro v1 w1 hO1 hE1);go_ret;exact⟨_,rfl,by rw[He.out] at hO1;exact hO1,hE1⟩
end Go.Zz
namespace Go.Zz
open Go.RowKit Go.Proofs
set_option maxHeartbeats 1000000
set_option maxRecDepth 4000
theorem cr8{n:Nat}(h:0<n):j0 (-(n:Int))=⟨#[45]⟩++O2 n ⟨#[]⟩:=by
 unfold j0;rw[if_neg (by omega),if_pos (by omega),Int.natAbs_neg,Int.natAbs_natCast]
theorem ce1(n:Nat)(hn:n<1000000000000)(hp:0<n)(w:World) :
 Calls Tryz.prog 45 #[.int .i64 (-(n:Int))] w fun e w'=>e=.returned (.string (j0 (-(n:Int))))∧Ext w w':=by
 have h0:¬n=0:=by omega
 have h0b:(-(n:Int) == 0)=false:=by rw[beq_eq_false_iff_ne];omega
 have h1:0<n:=hp;have h1b:(0:Int)<n:=by omega
 have Hf:=Lib.hid (cr8 hp);go_enter Tryz.func45,Tryz.ntmps45;go_wp2_with fail;go_loopw [0,3] (fun d s wr=>∃m:Nat,m<1000000000000∧d=.int .i64 (-(m:Int))∧Ext w wr∧∃t:ByteArray,s=.string t∧t.size+m≤n∧Hid (O2 m t=O2 n ⟨#[]⟩)) (fun d _ _=>(intOf d).natAbs);case atStart=>exact⟨n,hn,rfl,Ext.refl _,_,rfl,by simp[ByteArray.size],Lib.hid rfl⟩
 case round =>
  obtain⟨m,hm,rfl,hE,t,rfl,hsz,Ht⟩:=hrel;by_cases hz:m=0
  · subst hz;go_wp2_with fail;go_ret;exact⟨d9 (by rw[Hf.out,←Ht.out,bd9]),hE⟩
  · have h2:¬(m:Int)=0:=(by omega);obtain⟨r,hr⟩:∃r:Nat,(m:Int) % 10=r:=⟨m % 10,by omega⟩;have hr10:r<10:=(by omega);obtain⟨q,hq⟩:∃q:Nat,(m:Int) / 10=q:=⟨m / 10,by omega⟩;have Hr:=Lib.hid (show r=m % 10 by omega);have Hq:=Lib.hid (show q=m / 10 by omega);by_cases hr0:0<r
    · have hr1:(0:Int)<r:=(by omega);have hcv:=bd4 wr (48+r);have hs1:(strOfNums [48+(r:Int)]).size=1:=strOfNums_size _;go_wp2_with fail;go_roundw;case rel =>
       have hq':=Hq.out;have hr':=Hr.out;exact⟨q,by omega,by go_num,hE.alloc _,_,rfl,by (rw[ByteArray.size_append,hs1];omega),Lib.hid (by rw[←Ht.out,ba5 t hz,←hq',←hr'])⟩
      case measure =>
       have hq':=Hq.out;(simp[intOf];omega)
    · have hr1:r=0:=(by omega);subst hr1;have hcv:=bd4 wr 48;have hs1:(strOfNums [(48:Int)]).size=1:=strOfNums_size _;go_wp2_with fail;go_roundw;case rel =>
       have hq':=Hq.out;have hr':=Hr.out;exact⟨q,by omega,by go_num,hE.alloc _,_,rfl,by (rw[ByteArray.size_append,hs1];omega),Lib.hid (by rw[←Ht.out,ba5 t hz,←hq',←hr'];rfl)⟩
      case measure =>
       have hq':=Hq.out;(simp[intOf];omega)
theorem ck5(n:Nat)(hn:n<1000000000000)(hp:0<n)(w:World) :
 Calls Tryz.prog 98 #[.int .i64 (-(n:Int))] w fun e w'=>e=.returned (.string (j0 (-(n:Int))))∧Ext w w':=by
 have h0:¬n=0:=by omega
 have h0b:(-(n:Int) == 0)=false:=by rw[beq_eq_false_iff_ne];omega
 have h1:0<n:=hp;have h1b:(0:Int)<n:=by omega
 have hO0:=bu1 (Ext.refl w);have hE0:=(Ext.refl w).alloc (.cells #[] 5);go_enter Tryz.func98,Tryz.ntmps98;go_wp2_with fail;go_loopw [3,4] (fun v d wr=>∃(m:Nat) (l:List Int),m<1000000000000∧d=.int .i64 (-(m:Int))∧Ext w wr∧L4 w wr v l∧l.length+m≤n∧l++rd m=rd n) (fun _ d _=>(intOf d).natAbs);case atStart=>exact⟨n,[],hn,rfl,hE0,hO0,by simp,by simp⟩
 case round =>
  obtain⟨m,l,hm,rfl,hE,hO,hsz,hl⟩:=hrel;by_cases hz:m=0
  · subst hz;rw[Z1,List.append_nil] at hl;have Hl:=Lib.hid hl;have hlb:l.length<17592186044416:=(by omega);clear hl;go_wp2_with (at_builtin;go_loud (refine V6 rfl _ _ rfl w _ _ _ _ hO hE hlb rfl rfl ?_;intro v1 w1 hO1 hE1;obtain⟨X,hX⟩:∃X:List Int,X=l++[45]:=⟨_,rfl⟩;rw[←hX] at hO1;have hl0:0<X.length:=(by rw[hX];simp);obtain⟨g,c,hv,hlc,hg0,hg1,-⟩:=hO1.shape hl0;obtain⟨L,hL⟩:∃L,L=X.length:=⟨_,rfl⟩;have hL2:L≤n+1:=(by rw[hL,hX];simp;omega);rw[←hL] at hl0 hlc hv;subst hv;have HL:=Lib.hid hL;have HX:=Lib.hid hX;have HO:=Lib.hid hO1;clear hL hX hO1 hO));have hixB:∀(i:Nat) W,i<L→(Instr.indexAt 22 (.slice (some ⟨g,0,none⟩) L c) (.int .i64 (i:Int))).run Tryz.prog W=.ok (.pointer (some ⟨g,i,none⟩)) W:=by
     intro i W hi;rw[run_indexAt_slice (h:=elB),if_pos (by omega),dq5];simp[Result.andThen,Addr.add_lit]
    go_wp2_with fail;go_loopw [6,7] (fun i j wr=>∃(k jn:Nat),k≤jn+1∧jn+k+1=L∧i=.int .i64 k∧j=.int .i64 jn∧Ext w wr∧L4 w wr (.slice (some ⟨g,0,none⟩) L c) (M7 X k)) (fun _ j _=>(intOf j).toNat);(case atStart=>exact⟨0,L - 1,by omega,by omega,rfl,by go_num,hE1,by rw[bu8];exact HO.out⟩);case round =>
     obtain⟨k,jn,hk,hkj,rfl,rfl,hE2,hO2⟩:=hrel;have Hkj:=Lib.hid hkj;by_cases hlt:k<jn
     · have hkL:k<L:=(by omega);have hjL:jn<L:=(by omega);clear hkj;have hl2:(M7 X k).length=L:=(by rw[N5,←HL.out]);obtain⟨hck,hfk⟩:=hO2.cellAt hl2 k hkL;obtain⟨hcj,hfj⟩:=hO2.cellAt hl2 jn hjL;have Hl2:=Lib.hid hl2;have HO2:=Lib.hid hO2;clear hl2 hO2;have hne:¬k=jn:=(by omega);have hne2:¬jn=k:=(by omega);go_wp2_with fail;go_big_region;go_wp2_with fail;go_roundw;case rel =>
        have hkj':=Hkj.out;have hj2:(M7 X k).length - 1 - k=jn:=(by rw[Hl2.out];omega);obtain⟨hO3,hG3⟩:=HO2.out.stored_grown Hl2.out k (nth (M7 X k) jn);obtain⟨hO4,hG4⟩:=hO3.stored_grown (by rw[List.length_set];exact Hl2.out) jn (nth (M7 X k) k);have hst:=bu7 X k (by rw[←HL.out];omega);rw[←HL.out,show L - 1 - k=jn by omega] at hst;rw[hst] at hO4;exact⟨k+1,jn - 1,by omega,by omega,by go_num,by go_num,((hE2.grown hG3 (fun q hq=>by cases hq;exact hg0)).grown hG4 (fun q hq=>by cases hq;exact hg0)).drew,hO4⟩
       case measure=>(simp[intOf];omega)
     · clear hkj;have hcv:=hO2.str (by rw[N5,←HL.out]);have He:Hid (strOfNums (M7 X k)=j0 (-(n:Int))):=Lib.hid (by
        have hk':=Hkj.out;have hL':=HL.out;rw[c45 X k (by omega),HX.out,Hl.out,cr8 hp,b07];apply ByteArray.ext;simp[strOfNums])
       go_wp2_with fail;go_ret;exact⟨d9 He.out,hE2⟩
  · have h2:¬(m:Int)=0:=(by omega);obtain⟨r,hr⟩:∃r:Nat,(m:Int) % 10=r:=⟨m % 10,by omega⟩;have hr10:r<10:=(by omega);obtain⟨q,hq⟩:∃q:Nat,(m:Int) / 10=q:=⟨m / 10,by omega⟩;have Hr:=Lib.hid (show r=m % 10 by omega);have Hq:=Lib.hid (show q=m / 10 by omega);have Hl:=Lib.hid hl;have Hsz:=Lib.hid hsz;have hlb:l.length<17592186044416:=(by omega);clear hl hsz;by_cases hr0:0<r
    · have hr1:(0:Int)<r:=(by omega);go_wp2_with (at_builtin;refine V6 rfl _ _ rfl w _ _ _ _ hO hE hlb rfl rfl ?_;intro v1 w1 hO1 hE1);go_roundw;case rel =>
       have hq':=Hq.out;have hr':=Hr.out;have hs':=Hsz.out;exact⟨q,_,by omega,by go_num,hE1,hO1,by (simp;omega),by rw[←Hl.out,V2 hz,←hq',←hr'];simp⟩
      case measure =>
       have hq':=Hq.out;(simp[intOf];omega)
    · have hr1:r=0:=(by omega);subst hr1;go_wp2_with (at_builtin;refine V6 rfl _ _ rfl w _ _ _ _ hO hE hlb rfl rfl ?_;intro v1 w1 hO1 hE1);go_roundw;case rel =>
       have hq':=Hq.out;have hr':=Hr.out;have hs':=Hsz.out;exact⟨q,_,by omega,by go_num,hE1,hO1,by (simp;omega),by rw[←Hl.out,V2 hz,←hq',←hr'];simp⟩
      case measure =>
       have hq':=Hq.out;(simp[intOf];omega)
theorem bk0(n:Int)(hn : -1000000000000<n∧n<1000000000000)(w:World) :
 Calls Tryz.prog 45 #[.int .i64 n] w fun e w'=>e=.returned (.string (j0 n))∧Ext w w':=by
 by_cases h:n<0
 · obtain⟨m,rfl⟩:∃m:Nat,n = -(m:Int):=⟨n.natAbs,by omega⟩;exact ce1 m (by omega) (by omega) w
 · exact o5 n (by omega) w
theorem bo4(n:Int)(hn : -1000000000000<n∧n<1000000000000)(w:World) :
 Calls Tryz.prog 98 #[.int .i64 n] w fun e w'=>e=.returned (.string (j0 n))∧Ext w w':=by
 by_cases h:n<0
 · obtain⟨m,rfl⟩:∃m:Nat,n = -(m:Int):=⟨n.natAbs,by omega⟩;exact ck5 m (by omega) (by omega) w
 · exact p5 n (by omega) w
end Go.Zz
