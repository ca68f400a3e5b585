/- Plain facts on the search for a first largest set: as the references go through the elements. No program is named here. -/
import Derived.Test.YtnnbhcalddkmmaaGreatGr16
import Derived.Test.YtnnbhcalddkmmaaGreatGr4
import Derived.Test.YtnnbhcalddkmmaaGreatGr25
set_option linter.unusedSimpArgs false
set_option linter.unusedVariables false
set_option linter.unnecessarySimpa false
namespace Go.Zz
set_option linter.unusedVariables false
def fsK(P:Nat→Bool)(N f b fr k:Nat):Nat:=(B8 (b31 P N b fr) k).foldl (fun (best x:Nat)=>if cnt best<cnt (fsS P N f (b ||| 2 ^ x) (x+1)) then fsS P N f (b ||| 2 ^ x) (x+1) else best) b
theorem bs4(P:Nat→Bool)(N f b fr:Nat):fsK P N f b fr fr=b:=by
 unfold fsK;rw[br8 fun i hi=>by rw[T1];simp;intro _ h;omega];rfl
theorem cb7{P:Nat→Bool}{N:Nat}(hN:N≤24)(f b fr:Nat):fsS P N (f+1) b fr=fsK P N f b fr N:=by
 unfold fsK;rw[P8 hN (cc4 P N b fr)];rfl
theorem cs6{P:Nat→Bool}{N f b fr k:Nat}(h:P (b ||| 2 ^ k)=false):fsK P N f b fr (k+1)=fsK P N f b fr k:=by
 unfold fsK;rw[E7,show (b31 P N b fr).testBit k=false by rw[T1,h];simp];simp
theorem c29{P:Nat→Bool}{N f b fr k:Nat}(h1:k<N)(h2:fr≤k)(h:P (b ||| 2 ^ k)=true)(hq:cnt (fsK P N f b fr k)<cnt (fsS P N f (b ||| 2 ^ k) (k+1))):fsK P N f b fr (k+1)=fsS P N f (b ||| 2 ^ k) (k+1):=by
 unfold fsK at hq ⊢;rw[E7,show (b31 P N b fr).testBit k=true by rw[T1,h];simp[h1,h2],if_pos rfl,List.foldl_append];simp only[List.foldl_cons,List.foldl_nil];rw[if_pos hq]
theorem c28{P:Nat→Bool}{N f b fr k:Nat}(h1:k<N)(h2:fr≤k)(h:P (b ||| 2 ^ k)=true)(hq:¬cnt (fsK P N f b fr k)<cnt (fsS P N f (b ||| 2 ^ k) (k+1))):fsK P N f b fr (k+1)=fsK P N f b fr k:=by
 unfold fsK at hq ⊢;rw[E7,show (b31 P N b fr).testBit k=true by rw[T1,h];simp[h1,h2],if_pos rfl,List.foldl_append];simp only[List.foldl_cons,List.foldl_nil];rw[if_neg hq]
theorem de9{P:Nat→Bool}{N f:Nat}(h:P 1=false):fsS P N (f+1) 0 0=fsS P N (f+1) 0 1:=by
 have e:b31 P N 0 0=b31 P N 0 1:=Nat.eq_of_testBit_eq fun i=>by
  rw[T1,T1]
  by_cases hi:i=0
  · subst hi;simp[h]
  · simp[show 1≤i by omega]
 unfold fsS;rw[e]
def I1(l:List Int)(b:Nat):Bool:=d8 l b&&decide (j3 l b b &&& b=0)
end Go.Zz
namespace Go.Zz
open Go.RowKit Go.Proofs
set_option maxHeartbeats 2000000
set_option maxRecDepth 4000
theorem cs5(P:Nat→Bool)(N:Nat)(hN:N≤24)(f b fr k:Nat)(hb:b<2 ^ 24):fsK P N f b fr k<2 ^ 24:=by
 unfold fsK;have:∀(L:List Nat) (r:Nat),r<2 ^ 24→(∀x∈L,x<24)→L.foldl (fun (best x:Nat)=>if cnt best<cnt (fsS P N f (b ||| 2 ^ x) (x+1)) then fsS P N f (b ||| 2 ^ x) (x+1) else best) r<2 ^ 24:=by
  intro L;induction L with
  | nil=>intro r hr _;exact hr
  | cons x L ih =>
   intro r hr hL;rw[List.foldl_cons];refine ih _ ?_ fun y hy=>hL y (by simp[hy]);split
   · exact c65 P N hN f _ _ (Nat.or_lt_two_pow hb (Nat.pow_lt_pow_right (by omega) (hL x (by simp))))
   · exact hr
 refine this _ b hb fun x hx=>?_;have h1:=(List.mem_filter.1 hx).2;have:=G9 (cc4 P N b fr) h1;omega
theorem d26(v:Value)(l:List Int)(P:Nat→Bool)(Hgr:Hid (c9 l=true))(HP:Hid (∀W b,c8 W v l→b<2 ^ ord l→Calls Tryz.prog 73 #[.agg #[v],.int .i64 (b:Nat)] W fun e w'=>e=.returned (.bool (P b))∧Ext W w')) :
 ∀(f b fr:Nat) (w:World),c8 w v l→ord l<fr+f→fr≤ord l→b<2 ^ fr →
 Calls Tryz.prog 181 #[.agg #[v],.int .i64 b,.int .i64 fr] w fun e w'=>e=.returned (.int .i64 (fsS P (ord l) f b fr:Nat))∧Ext w w':=by
 intro f;induction f with
 | zero=>intro b fr w h hf hfr;omega
 | succ f ih =>
  intro b fr w h hf hfr hbf;have hob:=l8 Hgr.out;have hp24:=E1 Hgr.out;have hb24:b<2 ^ 24:=Nat.lt_of_lt_of_le hbf (Nat.pow_le_pow_right (by omega) (by omega));obtain⟨wb,Hwb,hE0,hb,hg,hE,Hsz⟩:=j60 28 h;clear h;have Hih:=Lib.hid ih;clear ih;have He:Hid (fsS P (ord l) (f+1) b fr=fsK P (ord l) f b fr (ord l)):=Lib.hid (cb7 hob.2 f b fr);have Hst:=Lib.hid (bs4 P (ord l) f b fr);have HB:=Lib.hid (fun k=>cs5 P (ord l) hob.2 f b fr k hb24);go_enter Tryz.func181,Tryz.ntmps181;go_wp2_with fail;rw[←Hwb.out];go_loopw [7,8] (fun bv xv wr=>∃k:Nat,fr≤k∧k≤ord l∧xv=.int .i64 k∧bv=.int .i64 (fsK P (ord l) f b fr k:Nat)∧Ext wb wr) (fun _ xv _=>ord l - (intOf xv).toNat);case atStart=>exact⟨fr,Nat.le_refl _,hfr,rfl,by rw[Hst.out],hE⟩
  case round =>
   clear hE;obtain⟨k,hk1,hk2,rfl,rfl,hE⟩:=hrel;have hB24:=HB.out k;have cO:=m4 v l wr (hg _ hE) Hgr;by_cases hlt:k<ord l
   · have hk24:k<24:=(by omega);have hs1:=p0 (n:=k) (by omega);have hs2:=F8 hb24 hk24;have hbk:b ||| 2 ^ k<2 ^ (k+1):=Nat.or_lt_two_pow (Nat.lt_of_lt_of_le hbf (Nat.pow_le_pow_right (by omega) (by omega))) (Nat.pow_lt_pow_right (by omega) (by omega))
     have hbo:b ||| 2 ^ k<2 ^ ord l:=Nat.lt_of_lt_of_le hbk (Nat.pow_le_pow_right (by omega) (by omega))
     have hcP:=fun W (hW:Ext wr W)=>HP.out W (b ||| 2 ^ k) (hg _ (hE.trans hW)) hbo;have hcR:=fun W (hW:Ext wr W)=>Hih.out (b ||| 2 ^ k) (k+1) W (hg _ (hE.trans hW)) (by omega) (by omega) hbk;rw[show ((k+1:Nat):Int)=(k:Int)+1 by omega] at hcR;obtain⟨Y,hY⟩:∃Y,Y=fsS P (ord l) f (b ||| 2 ^ k) (k+1):=⟨_,rfl⟩;have hY24:Y<2 ^ 24:=(by rw[hY];exact c65 P (ord l) hob.2 f _ _ (Nat.lt_of_lt_of_le hbo hp24));obtain⟨B,hB⟩:∃B,B=fsK P (ord l) f b fr k:=⟨_,rfl⟩;have Hno:=Lib.hid (fun h=>cs6 (P:=P) (N:=ord l) (f:=f) (b:=b) (fr:=fr) (k:=k) h);have Hmo:=Lib.hid (fun h=>c29 (P:=P) (N:=ord l) (f:=f) (b:=b) (fr:=fr) (k:=k) hlt hk1 h);have Hle:=Lib.hid (fun h=>c28 (P:=P) (N:=ord l) (f:=f) (b:=b) (fr:=fr) (k:=k) hlt hk1 h);rw[←hB,←hY] at Hmo Hle;rw[←hB] at Hno hB24 ⊢;rw[←hY] at hcR;have hbY:=fun W=>o9 Y hY24 W;have hbB:=fun W=>o9 B hB24 W;have hcB1:=p7 B;have hcY1:=p7 Y;clear hY hB hbk hbo;cases hP:P (b ||| 2 ^ k)
     · have Hn:=Lib.hid (Hno.out hP);rw[hP] at hcP;clear hP;go_wp2_with (first | (go_at_call 43;refine cO.mono ?_;rintro e1 w1 ⟨rfl,hE1⟩;have hE01:=hE.trans hE1) | (go_at_call 73;refine (hcP _ hE1).mono ?_;rintro e2 w2 ⟨rfl,hE2⟩;have hE12:=hE1.trans hE2;have hE02:=hE.trans hE12;skip));go_roundw;(case rel=>exact⟨k+1,by omega,by omega,by go_num,by rw[Hn.out],hE02⟩);case measure=>(simp[intOf];omega)
     · rw[hP] at hcP;by_cases hq:cnt B<cnt Y
       · have Hn:=Lib.hid (Hmo.out hP hq);clear hP;go_wp2_with (first | (go_at_call 43;refine cO.mono ?_;rintro e1 w1 ⟨rfl,hE1⟩;have hE01:=hE.trans hE1) | (go_at_call 73;refine (hcP _ hE1).mono ?_;rintro e2 w2 ⟨rfl,hE2⟩;have hE12:=hE1.trans hE2;have hE02:=hE.trans hE12;skip) | (go_at_call 181;refine (hcR _ hE12).mono ?_;rintro e3 w3 ⟨rfl,hE3⟩;have hE03:=hE02.trans hE3) | (go_at_call 66;with_reducible refine Calls.mono (hbY _) ?_;rintro e' w' ⟨rfl,rfl⟩) | (go_at_call 66;with_reducible refine Calls.mono (hbB _) ?_;rintro e' w' ⟨rfl,rfl⟩));go_roundw;(case rel=>exact⟨k+1,by omega,by omega,by go_num,by rw[Hn.out],hE03⟩);case measure=>(simp[intOf];omega)
       · have Hn:=Lib.hid (Hle.out hP hq);clear hP;go_wp2_with (first | (go_at_call 43;refine cO.mono ?_;rintro e1 w1 ⟨rfl,hE1⟩;have hE01:=hE.trans hE1) | (go_at_call 73;refine (hcP _ hE1).mono ?_;rintro e2 w2 ⟨rfl,hE2⟩;have hE12:=hE1.trans hE2;have hE02:=hE.trans hE12;skip) | (go_at_call 181;refine (hcR _ hE12).mono ?_;rintro e3 w3 ⟨rfl,hE3⟩;have hE03:=hE02.trans hE3) | (go_at_call 66;with_reducible refine Calls.mono (hbY _) ?_;rintro e' w' ⟨rfl,rfl⟩) | (go_at_call 66;with_reducible refine Calls.mono (hbB _) ?_;rintro e' w' ⟨rfl,rfl⟩));go_roundw;(case rel=>exact⟨k+1,by omega,by omega,by go_num,by rw[Hn.out],hE03⟩);case measure=>(simp[intOf];omega)
   · have hkl:k=ord l:=(by omega);have Hn:=Lib.hid (show fsS P (ord l) (f+1) b fr=fsK P (ord l) f b fr k by rw[He.out,hkl]);clear hkl;go_wp2_with (go_at_call 43;refine cO.mono ?_;rintro e1 w1 ⟨rfl,hE1⟩);go_ret;exact⟨m8 (by rw[Hn.out]),hE0.trans (hE.trans hE1)⟩
theorem db0(v:Value)(l:List Int)(P:Nat→Bool)(Hgr:Hid (c9 l=true))(HP:Hid (∀W b,c8 W v l→b<2 ^ ord l→Calls Tryz.prog 191 #[.agg #[v],.int .i64 (b:Nat)] W fun e w'=>e=.returned (.bool (P b))∧Ext W w')) :
 ∀(f b fr:Nat) (w:World),c8 w v l→ord l<fr+f→fr≤ord l→b<2 ^ fr →
 Calls Tryz.prog 182 #[.agg #[v],.int .i64 b,.int .i64 fr] w fun e w'=>e=.returned (.int .i64 (fsS P (ord l) f b fr:Nat))∧Ext w w':=by
 intro f;induction f with
 | zero=>intro b fr w h hf hfr;omega
 | succ f ih =>
  intro b fr w h hf hfr hbf;have hob:=l8 Hgr.out;have hp24:=E1 Hgr.out;have hb24:b<2 ^ 24:=Nat.lt_of_lt_of_le hbf (Nat.pow_le_pow_right (by omega) (by omega));obtain⟨wb,Hwb,hE0,hb,hg,hE,Hsz⟩:=j60 28 h;clear h;have Hih:=Lib.hid ih;clear ih;have He:Hid (fsS P (ord l) (f+1) b fr=fsK P (ord l) f b fr (ord l)):=Lib.hid (cb7 hob.2 f b fr);have Hst:=Lib.hid (bs4 P (ord l) f b fr);have HB:=Lib.hid (fun k=>cs5 P (ord l) hob.2 f b fr k hb24);go_enter Tryz.func182,Tryz.ntmps182;go_wp2_with fail;rw[←Hwb.out];go_loopw [7,8] (fun bv xv wr=>∃k:Nat,fr≤k∧k≤ord l∧xv=.int .i64 k∧bv=.int .i64 (fsK P (ord l) f b fr k:Nat)∧Ext wb wr) (fun _ xv _=>ord l - (intOf xv).toNat);case atStart=>exact⟨fr,Nat.le_refl _,hfr,rfl,by rw[Hst.out],hE⟩
  case round =>
   clear hE;obtain⟨k,hk1,hk2,rfl,rfl,hE⟩:=hrel;have hB24:=HB.out k;have cO:=m4 v l wr (hg _ hE) Hgr;by_cases hlt:k<ord l
   · have hk24:k<24:=(by omega);have hs1:=p0 (n:=k) (by omega);have hs2:=F8 hb24 hk24;have hbk:b ||| 2 ^ k<2 ^ (k+1):=Nat.or_lt_two_pow (Nat.lt_of_lt_of_le hbf (Nat.pow_le_pow_right (by omega) (by omega))) (Nat.pow_lt_pow_right (by omega) (by omega))
     have hbo:b ||| 2 ^ k<2 ^ ord l:=Nat.lt_of_lt_of_le hbk (Nat.pow_le_pow_right (by omega) (by omega))
     have hcP:=fun W (hW:Ext wr W)=>HP.out W (b ||| 2 ^ k) (hg _ (hE.trans hW)) hbo;have hcR:=fun W (hW:Ext wr W)=>Hih.out (b ||| 2 ^ k) (k+1) W (hg _ (hE.trans hW)) (by omega) (by omega) hbk;rw[show ((k+1:Nat):Int)=(k:Int)+1 by omega] at hcR;obtain⟨Y,hY⟩:∃Y,Y=fsS P (ord l) f (b ||| 2 ^ k) (k+1):=⟨_,rfl⟩;have hY24:Y<2 ^ 24:=(by rw[hY];exact c65 P (ord l) hob.2 f _ _ (Nat.lt_of_lt_of_le hbo hp24));obtain⟨B,hB⟩:∃B,B=fsK P (ord l) f b fr k:=⟨_,rfl⟩;have Hno:=Lib.hid (fun h=>cs6 (P:=P) (N:=ord l) (f:=f) (b:=b) (fr:=fr) (k:=k) h);have Hmo:=Lib.hid (fun h=>c29 (P:=P) (N:=ord l) (f:=f) (b:=b) (fr:=fr) (k:=k) hlt hk1 h);have Hle:=Lib.hid (fun h=>c28 (P:=P) (N:=ord l) (f:=f) (b:=b) (fr:=fr) (k:=k) hlt hk1 h);rw[←hB,←hY] at Hmo Hle;rw[←hB] at Hno hB24 ⊢;rw[←hY] at hcR;have hbY:=fun W=>o9 Y hY24 W;have hbB:=fun W=>o9 B hB24 W;have hcB1:=p7 B;have hcY1:=p7 Y;clear hY hB hbk hbo;cases hP:P (b ||| 2 ^ k)
     · have Hn:=Lib.hid (Hno.out hP);rw[hP] at hcP;clear hP;go_wp2_with (first | (go_at_call 43;refine cO.mono ?_;rintro e1 w1 ⟨rfl,hE1⟩;have hE01:=hE.trans hE1) | (go_at_call 191;refine (hcP _ hE1).mono ?_;rintro e2 w2 ⟨rfl,hE2⟩;have hE12:=hE1.trans hE2;have hE02:=hE.trans hE12;skip));go_roundw;(case rel=>exact⟨k+1,by omega,by omega,by go_num,by rw[Hn.out],hE02⟩);case measure=>(simp[intOf];omega)
     · rw[hP] at hcP;by_cases hq:cnt B<cnt Y
       · have Hn:=Lib.hid (Hmo.out hP hq);clear hP;go_wp2_with (first | (go_at_call 43;refine cO.mono ?_;rintro e1 w1 ⟨rfl,hE1⟩;have hE01:=hE.trans hE1) | (go_at_call 191;refine (hcP _ hE1).mono ?_;rintro e2 w2 ⟨rfl,hE2⟩;have hE12:=hE1.trans hE2;have hE02:=hE.trans hE12;skip) | (go_at_call 182;refine (hcR _ hE12).mono ?_;rintro e3 w3 ⟨rfl,hE3⟩;have hE03:=hE02.trans hE3) | (go_at_call 66;with_reducible refine Calls.mono (hbY _) ?_;rintro e' w' ⟨rfl,rfl⟩) | (go_at_call 66;with_reducible refine Calls.mono (hbB _) ?_;rintro e' w' ⟨rfl,rfl⟩));go_roundw;(case rel=>exact⟨k+1,by omega,by omega,by go_num,by rw[Hn.out],hE03⟩);case measure=>(simp[intOf];omega)
       · have Hn:=Lib.hid (Hle.out hP hq);clear hP;go_wp2_with (first | (go_at_call 43;refine cO.mono ?_;rintro e1 w1 ⟨rfl,hE1⟩;have hE01:=hE.trans hE1) | (go_at_call 191;refine (hcP _ hE1).mono ?_;rintro e2 w2 ⟨rfl,hE2⟩;have hE12:=hE1.trans hE2;have hE02:=hE.trans hE12;skip) | (go_at_call 182;refine (hcR _ hE12).mono ?_;rintro e3 w3 ⟨rfl,hE3⟩;have hE03:=hE02.trans hE3) | (go_at_call 66;with_reducible refine Calls.mono (hbY _) ?_;rintro e' w' ⟨rfl,rfl⟩) | (go_at_call 66;with_reducible refine Calls.mono (hbB _) ?_;rintro e' w' ⟨rfl,rfl⟩));go_roundw;(case rel=>exact⟨k+1,by omega,by omega,by go_num,by rw[Hn.out],hE03⟩);case measure=>(simp[intOf];omega)
   · have hkl:k=ord l:=(by omega);have Hn:=Lib.hid (show fsS P (ord l) (f+1) b fr=fsK P (ord l) f b fr k by rw[He.out,hkl]);clear hkl;go_wp2_with (go_at_call 43;refine cO.mono ?_;rintro e1 w1 ⟨rfl,hE1⟩);go_ret;exact⟨m8 (by rw[Hn.out]),hE0.trans (hE.trans hE1)⟩
theorem di2(v:Value)(l:List Int)(P:Nat→Bool)(Hgr:Hid (c9 l=true))(HP:Hid (∀W b,c8 W v l→b<2 ^ ord l→Calls Tryz.prog 192 #[.agg #[v],.int .i64 (b:Nat)] W fun e w'=>∃n:Int,e=.returned (.int .i64 n)∧(n != 0) = !(P b)∧Ext W w')) :
 ∀(f b fr:Nat) (w:World),c8 w v l→ord l<fr+f→fr≤ord l→b<2 ^ fr →
 Calls Tryz.prog 183 #[.agg #[v],.int .i64 b,.int .i64 fr] w fun e w'=>e=.returned (.int .i64 (fsS P (ord l) f b fr:Nat))∧Ext w w':=by
 intro f;induction f with
 | zero=>intro b fr w h hf hfr;omega
 | succ f ih =>
  intro b fr w h hf hfr hbf;have hob:=l8 Hgr.out;have hp24:=E1 Hgr.out;have hb24:b<2 ^ 24:=Nat.lt_of_lt_of_le hbf (Nat.pow_le_pow_right (by omega) (by omega));obtain⟨wb,Hwb,hE0,hb,hg,hE,Hsz⟩:=j60 28 h;clear h;have Hih:=Lib.hid ih;clear ih;have He:Hid (fsS P (ord l) (f+1) b fr=fsK P (ord l) f b fr (ord l)):=Lib.hid (cb7 hob.2 f b fr);have Hst:=Lib.hid (bs4 P (ord l) f b fr);have HB:=Lib.hid (fun k=>cs5 P (ord l) hob.2 f b fr k hb24);go_enter Tryz.func183,Tryz.ntmps183;go_wp2_with fail;rw[←Hwb.out];go_loopw [7,8] (fun bv xv wr=>∃k:Nat,fr≤k∧k≤ord l∧xv=.int .i64 k∧bv=.int .i64 (fsK P (ord l) f b fr k:Nat)∧Ext wb wr) (fun _ xv _=>ord l - (intOf xv).toNat);case atStart=>exact⟨fr,Nat.le_refl _,hfr,rfl,by rw[Hst.out],hE⟩
  case round =>
   clear hE;obtain⟨k,hk1,hk2,rfl,rfl,hE⟩:=hrel;have hB24:=HB.out k;have cO:=m4 v l wr (hg _ hE) Hgr;by_cases hlt:k<ord l
   · have hk24:k<24:=(by omega);have hs1:=p0 (n:=k) (by omega);have hs2:=F8 hb24 hk24;have hbk:b ||| 2 ^ k<2 ^ (k+1):=Nat.or_lt_two_pow (Nat.lt_of_lt_of_le hbf (Nat.pow_le_pow_right (by omega) (by omega))) (Nat.pow_lt_pow_right (by omega) (by omega))
     have hbo:b ||| 2 ^ k<2 ^ ord l:=Nat.lt_of_lt_of_le hbk (Nat.pow_le_pow_right (by omega) (by omega))
     have hcP:=fun W (hW:Ext wr W)=>HP.out W (b ||| 2 ^ k) (hg _ (hE.trans hW)) hbo;have hcR:=fun W (hW:Ext wr W)=>Hih.out (b ||| 2 ^ k) (k+1) W (hg _ (hE.trans hW)) (by omega) (by omega) hbk;rw[show ((k+1:Nat):Int)=(k:Int)+1 by omega] at hcR;obtain⟨Y,hY⟩:∃Y,Y=fsS P (ord l) f (b ||| 2 ^ k) (k+1):=⟨_,rfl⟩;have hY24:Y<2 ^ 24:=(by rw[hY];exact c65 P (ord l) hob.2 f _ _ (Nat.lt_of_lt_of_le hbo hp24));obtain⟨B,hB⟩:∃B,B=fsK P (ord l) f b fr k:=⟨_,rfl⟩;have Hno:=Lib.hid (fun h=>cs6 (P:=P) (N:=ord l) (f:=f) (b:=b) (fr:=fr) (k:=k) h);have Hmo:=Lib.hid (fun h=>c29 (P:=P) (N:=ord l) (f:=f) (b:=b) (fr:=fr) (k:=k) hlt hk1 h);have Hle:=Lib.hid (fun h=>c28 (P:=P) (N:=ord l) (f:=f) (b:=b) (fr:=fr) (k:=k) hlt hk1 h);rw[←hB,←hY] at Hmo Hle;rw[←hB] at Hno hB24 ⊢;rw[←hY] at hcR;have hbY:=fun W=>o9 Y hY24 W;have hbB:=fun W=>o9 B hB24 W;have hcB1:=p7 B;have hcY1:=p7 Y;clear hY hB hbk hbo;cases hP:P (b ||| 2 ^ k)
     · have Hn:=Lib.hid (Hno.out hP);rw[hP] at hcP;clear hP;go_wp2_with (first | (go_at_call 43;refine cO.mono ?_;rintro e1 w1 ⟨rfl,hE1⟩;have hE01:=hE.trans hE1) | (go_at_call 192;refine (hcP _ hE1).mono ?_;rintro e2 w2 ⟨n,rfl,hn,hE2⟩;have hE12:=hE1.trans hE2;have hE02:=hE.trans hE12;simp only[Bool.not_false] at hn));go_roundw;(case rel=>exact⟨k+1,by omega,by omega,by go_num,by rw[Hn.out],hE02⟩);case measure=>(simp[intOf];omega)
     · rw[hP] at hcP;by_cases hq:cnt B<cnt Y
       · have Hn:=Lib.hid (Hmo.out hP hq);clear hP;go_wp2_with (first | (go_at_call 43;refine cO.mono ?_;rintro e1 w1 ⟨rfl,hE1⟩;have hE01:=hE.trans hE1) | (go_at_call 192;refine (hcP _ hE1).mono ?_;rintro e2 w2 ⟨n,rfl,hn,hE2⟩;have hE12:=hE1.trans hE2;have hE02:=hE.trans hE12;simp only[Bool.not_true] at hn) | (go_at_call 183;refine (hcR _ hE12).mono ?_;rintro e3 w3 ⟨rfl,hE3⟩;have hE03:=hE02.trans hE3) | (go_at_call 66;with_reducible refine Calls.mono (hbY _) ?_;rintro e' w' ⟨rfl,rfl⟩) | (go_at_call 66;with_reducible refine Calls.mono (hbB _) ?_;rintro e' w' ⟨rfl,rfl⟩));go_roundw;(case rel=>exact⟨k+1,by omega,by omega,by go_num,by rw[Hn.out],hE03⟩);case measure=>(simp[intOf];omega)
       · have Hn:=Lib.hid (Hle.out hP hq);clear hP;go_wp2_with (first | (go_at_call 43;refine cO.mono ?_;rintro e1 w1 ⟨rfl,hE1⟩;have hE01:=hE.trans hE1) | (go_at_call 192;refine (hcP _ hE1).mono ?_;rintro e2 w2 ⟨n,rfl,hn,hE2⟩;have hE12:=hE1.trans hE2;have hE02:=hE.trans hE12;simp only[Bool.not_true] at hn) | (go_at_call 183;refine (hcR _ hE12).mono ?_;rintro e3 w3 ⟨rfl,hE3⟩;have hE03:=hE02.trans hE3) | (go_at_call 66;with_reducible refine Calls.mono (hbY _) ?_;rintro e' w' ⟨rfl,rfl⟩) | (go_at_call 66;with_reducible refine Calls.mono (hbB _) ?_;rintro e' w' ⟨rfl,rfl⟩));go_roundw;(case rel=>exact⟨k+1,by omega,by omega,by go_num,by rw[Hn.out],hE03⟩);case measure=>(simp[intOf];omega)
   · have hkl:k=ord l:=(by omega);have Hn:=Lib.hid (show fsS P (ord l) (f+1) b fr=fsK P (ord l) f b fr k by rw[He.out,hkl]);clear hkl;go_wp2_with (go_at_call 43;refine cO.mono ?_;rintro e1 w1 ⟨rfl,hE1⟩);go_ret;exact⟨m8 (by rw[Hn.out]),hE0.trans (hE.trans hE1)⟩
theorem c04(v:Value)(l:List Int)(a:Nat)(w:World)(h:c8 w v l)(Hgr:Hid (c9 l=true))(ha:a<2 ^ 24) :
 Calls Tryz.prog 73 #[.agg #[v],.int .i64 a] w fun e w'=>e=.returned (.bool (decide (j3 l a a &&& a=0)))∧Ext w w':=by
 obtain⟨wb,Hwb,hE0,hb,hg,hE,Hsz⟩:=j60 28 h;clear h;have hbx:=hb wb hE;have hs:=F5 Hgr.out a a;have ho:Z6 ((j3 l a a:Nat):Int) (a:Int)=((j3 l a a &&& a:Nat):Int):=W9 (by omega) (by omega);have cS:=E4 v l a a wb (hg _ hE) Hgr ha ha;go_enter Tryz.func73,Tryz.ntmps73;go_wp2_with fail;rw[←Hwb.out];refine cS.mono ?_;rintro e w1 ⟨rfl,hE1⟩;go_wp2_with fail;go_ret;exact⟨l9 (by rw[Bool.eq_iff_iff,beq_iff_eq,decide_eq_true_iff];omega),hE0.trans hE1⟩
theorem bo5(v:Value)(l:List Int)(a:Int)(w:World)(h:c8 w v l) :
 Calls Tryz.prog 114 #[.agg #[v],.int .i64 a] w fun e w'=>e=.returned (.bool (d8 l a&&decide (j3 l a.toNat a.toNat &&& a.toNat=0)))∧Ext w w':=by
 obtain⟨wb,Hwb,hE0,hb,hg,hE,Hsz⟩:=j60 28 h;clear h;have hbx:=hb wb hE;have cI:=H6 v l a wb (hg _ hE);cases hs:d8 l a
 · rw[hs] at cI;go_enter Tryz.func114,Tryz.ntmps114;go_wp2_with fail;rw[←Hwb.out];refine cI.mono ?_;rintro e w1 ⟨rfl,hE1⟩;go_wp2_with fail;go_ret;exact⟨rfl,hE0.trans hE1⟩
 · rw[hs] at cI;obtain⟨n,rfl,-,hn,hgr⟩:=m3 hs;have hs24:=F5 hgr n n;have ho:Z6 ((j3 l n n:Nat):Int) (n:Int)=((j3 l n n &&& n:Nat):Int):=W9 (by omega) (by omega);have cS:=fun W (hW:Ext wb W)=>H5 v l n n W (hg _ hW) (Lib.hid hgr) hn hn;have Hv:Hid ((true&&decide (j3 l ((n:Nat):Int).toNat ((n:Nat):Int).toNat &&& ((n:Nat):Int).toNat=0))=(((j3 l n n &&& n:Nat):Int) == 0)):=Lib.hid (by
    rw[show ((n:Nat):Int).toNat=n by omega,Bool.true_and,Bool.eq_iff_iff,beq_iff_eq,decide_eq_true_iff];omega)
   clear hs hgr;go_enter Tryz.func114,Tryz.ntmps114;go_wp2_with fail;rw[←Hwb.out];refine cI.mono ?_;rintro e w1 ⟨rfl,hE1⟩;have hb1:=hb w1 hE1;go_wp2_with fail;refine (cS _ hE1).mono ?_;rintro e w2 ⟨rfl,hE2⟩;go_wp2_with fail;go_ret;exact⟨l9 Hv.out.symm,hE0.trans (hE1.trans hE2)⟩
end Go.Zz
namespace Go.Zz
open Go.RowKit Go.Proofs
set_option maxHeartbeats 2000000
set_option maxRecDepth 4000
noncomputable def sidP (l:List Int) (b:Nat):Bool:=sidB l b
def lgB(l:List Int)(m:Nat):Bool:=c9 l&&decide (ord l≤m)
def lgV(P:Nat→Bool)(l:List Int)(m:Nat):Nat:=if lgB l m then fsS P (ord l) (ord l+1) 0 0 else 0
theorem b02{P:Nat→Bool}{l:List Int}{m:Nat}(h:lgB l m=false):lgV P l m=0:=by unfold lgV;rw[h];rfl
theorem bi9{P:Nat→Bool}{l:List Int}{m:Nat}(h:lgB l m=true):lgV P l m=fsS P (ord l) (ord l+1) 0 0:=by unfold lgV;rw[h];rfl
theorem d18(v:Value)(l:List Int)(P:Nat→Bool)(Hgr:Hid (c9 l=true))(W0:World)(bC bS bB bG bI bT:Nat)(hCS:bC≠bS)(hCB:bC≠bB)(hSB:bS≠bB)(hTC:bT≠bC)(hTS:bT≠bS)(hTB:bT≠bB)(h0C:W0.heap.size≤bC)(h0S:W0.heap.size≤bS)(h0B:W0.heap.size≤bB)
 (p1 p2:Value) (HG:∀W,Ext W0 W→W.cell? ⟨bG,0,none⟩=some v) (HF:∀W,Ext W0 W→W.cell? ⟨bI,0,none⟩=some (.func (.func 250) #[] #[p1])) (HI:Hid (∀W,Ext W0 W→c8 W v l))
 (HP:∀W b,Ext W0 W→b<2 ^ 24→Calls Tryz.prog 250 #[.int .i64 (b:Nat),p1] W fun e w'=>e=.returned (.bool (P b))∧Ext W w') :
 ∀(f b n fr:Nat) (w:World) (s:Nat × Int) (c:Int),ord l<fr+f→fr≤ord l→b<2 ^ 24→n≤fr → -1≤s.2→s.2≤24→Ext W0 w→Blk w bB 3 #[.int .i64 s.1]→Blk w bS 3 #[.int .i64 s.2]→Blk w bC 3 #[.int .i64 c] →
 Blk w bT 162 #[.func (.func 313) #[] #[.pointer (some ⟨bC,0,none⟩),.pointer (some ⟨bS,0,none⟩),.pointer (some ⟨bB,0,none⟩),.pointer (some ⟨bG,0,none⟩),.pointer (some ⟨bI,0,none⟩),.pointer (some ⟨bT,0,none⟩)]] →
 Calls Tryz.prog 313 #[.int .i64 b,.int .i64 n,.int .i64 fr,.pointer (some ⟨bC,0,none⟩),.pointer (some ⟨bS,0,none⟩),.pointer (some ⟨bB,0,none⟩),.pointer (some ⟨bG,0,none⟩),.pointer (some ⟨bI,0,none⟩),.pointer (some ⟨bT,0,none⟩)] w fun e w' =>
  e=.returned (.tuple #[])∧∃c',Blk w' bB 3 #[.int .i64 (fsI P (ord l) f b n fr s).1]∧Blk w' bS 3 #[.int .i64 (fsI P (ord l) f b n fr s).2]∧Blk w' bC 3 #[.int .i64 c']∧Fw (S3 bC bS bB) w w' ∧ -1≤(fsI P (ord l) f b n fr s).2∧(fsI P (ord l) f b n fr s).2≤24:=by
 intro f
 induction f with
 | zero=>intro b n fr w s c hf hfr;omega
 | succ f ih =>
  intro b n fr w s c hf hfr hb24 hn hs1 hs2 hE0 hB hS hC hT
  have hob:=l8 Hgr.out
  have Hih:=Lib.hid ih
  clear ih
  obtain⟨c1,hc1⟩:∃c1,c1=wrap64 (c+1):=⟨_,rfl⟩
  have kc:=hC.cell (i:=0) (v:=.int .i64 c) rfl
  have fc:=hC.free 0
  have B1:Blk (w.setCell ⟨bC,0,none⟩ (.int .i64 (wrap64 (c+1)))) bB 3 #[.int .i64 s.1]:=hB.other (by simpa using hCB.symm) _
  have S1:Blk (w.setCell ⟨bC,0,none⟩ (.int .i64 (wrap64 (c+1)))) bS 3 #[.int .i64 s.2]:=hS.other (by simpa using hCS.symm) _
  have C1:Blk (w.setCell ⟨bC,0,none⟩ (.int .i64 (wrap64 (c+1)))) bC 3 #[.int .i64 (wrap64 (c+1))]:=hC.set 0 _
  have F1:Fw (S3 bC bS bB) w (w.setCell ⟨bC,0,none⟩ (.int .i64 (wrap64 (c+1)))):=Z8 (Or.inl rfl) w 0 _
  have ks1:=S1.cell (i:=0) (v:=.int .i64 s.2) rfl
  have kb1:=B1.cell (i:=0) (v:=.int .i64 s.1) rfl
  have fb1:=B1.free 0
  have hS3:∀k,S3 bC bS bB k→W0.heap.size≤k:=by rintro k (rfl | rfl | rfl)<;>assumption
  have hT3:¬S3 bC bS bB bT:=by rintro (h | h | h)<;>contradiction
  by_cases hq:s.2<(n:Int)
  · have B2:Blk ((w.setCell ⟨bC,0,none⟩ (.int .i64 (wrap64 (c+1)))).setCell ⟨bB,0,none⟩ (.int .i64 b)) bB 3 #[.int .i64 b]:=B1.set 0 _
    have S2:Blk ((w.setCell ⟨bC,0,none⟩ (.int .i64 (wrap64 (c+1)))).setCell ⟨bB,0,none⟩ (.int .i64 b)) bS 3 #[.int .i64 s.2]:=S1.other (by simpa using hSB) _
    have C2:Blk ((w.setCell ⟨bC,0,none⟩ (.int .i64 (wrap64 (c+1)))).setCell ⟨bB,0,none⟩ (.int .i64 b)) bC 3 #[.int .i64 (wrap64 (c+1))]:=C1.other (by simpa using hCB) _
    have ks2:=S2.cell (i:=0) (v:=.int .i64 s.2) rfl
    have fs2:=S2.free 0
    have s0:=V5 (P:=P) (N:=ord l) (f:=f) (b:=b) (n:=n) (fr:=fr) (s:=s)
    rw[if_pos hq] at s0
    have HB0:Hid (Blk (((w.setCell ⟨bC,0,none⟩ (.int .i64 (wrap64 (c+1)))).setCell ⟨bB,0,none⟩ (.int .i64 b)).setCell ⟨bS,0,none⟩ (.int .i64 n)) bB 3 #[.int .i64 (o3 P (ord l) f b n fr s fr).1]):=Lib.hid (by rw[s0];exact B2.other (by simpa using hSB.symm) _)
    have HS0:Hid (Blk (((w.setCell ⟨bC,0,none⟩ (.int .i64 (wrap64 (c+1)))).setCell ⟨bB,0,none⟩ (.int .i64 b)).setCell ⟨bS,0,none⟩ (.int .i64 n)) bS 3 #[.int .i64 (o3 P (ord l) f b n fr s fr).2]):=Lib.hid (by rw[s0];exact S2.set 0 _)
    have HC0:Hid (Blk (((w.setCell ⟨bC,0,none⟩ (.int .i64 (wrap64 (c+1)))).setCell ⟨bB,0,none⟩ (.int .i64 b)).setCell ⟨bS,0,none⟩ (.int .i64 n)) bC 3 #[.int .i64 (wrap64 (c+1))]):=Lib.hid (C2.other (by simpa using hCS) _)
    have HF0:Hid (Fw (S3 bC bS bB) w (((w.setCell ⟨bC,0,none⟩ (.int .i64 (wrap64 (c+1)))).setCell ⟨bB,0,none⟩ (.int .i64 b)).setCell ⟨bS,0,none⟩ (.int .i64 n))):=Lib.hid ((F1.trans (Z8 (Or.inr (Or.inr rfl)) _ 0 _)).trans (Z8 (Or.inr (Or.inl rfl)) _ 0 _))
    have Hb0:Hid (-1≤(o3 P (ord l) f b n fr s fr).2∧(o3 P (ord l) f b n fr s fr).2≤24):=Lib.hid (by rw[s0];simp only;omega)
    clear s0 B1 S1 C1 F1 B2 S2 C2 hB hS hC hc1
    go_enter Tryz.func313,Tryz.ntmps313
    go_wp2_with fail
    clear kc fc ks1 kb1 fb1 ks2 fs2 hq
    go_loopw [12] (fun xv wr=>∃(k:Nat) (c':Int),fr≤k∧k≤ord l∧xv=.int .i64 k∧Blk wr bB 3 #[.int .i64 (o3 P (ord l) f b n fr s k).1]∧Blk wr bS 3 #[.int .i64 (o3 P (ord l) f b n fr s k).2]∧Blk wr bC 3 #[.int .i64 c']∧Fw (S3 bC bS bB) w wr ∧ -1≤(o3 P (ord l) f b n fr s k).2∧(o3 P (ord l) f b n fr s k).2≤24) (fun x _=>ord l - (intOf x).toNat)
    case atStart=>exact⟨fr,_,by omega,by omega,rfl,HB0.out,HS0.out,HC0.out,HF0.out,Hb0.out.1,Hb0.out.2⟩
    case round =>
     obtain⟨k,c',hk1,hk2,rfl,hB,hS,hC,hF,hb1,hb2⟩:=hrel;clear HB0 HS0 HC0 HF0 Hb0;have hEr:=hF.ext hE0 hS3;have hTr:=hF.blk hT hT3;obtain⟨z,hz⟩:∃z,z=o3 P (ord l) f b n fr s k:=⟨_,rfl⟩;rw[←hz] at hB hS hb1 hb2;have HB:=Lib.hid hB;have HS:=Lib.hid hS;have HC:=Lib.hid hC;have HFw:=Lib.hid hF;clear hB hS hC hF;by_cases hlt:k<ord l
     · have hk24:k<24:=(by omega);have hs1':=p0 (n:=k) (by omega);have hs2':=F8 hb24 hk24;have hbk:b ||| 2 ^ k<2 ^ 24:=Nat.or_lt_two_pow hb24 (Nat.pow_lt_pow_right (by omega) hk24)
       cases hP:P (b ||| 2 ^ k)
       · have Hn:Hid (o3 P (ord l) f b n fr s (k+1)=z):=Lib.hid (by rw[b46 hP,hz]);have hcP:=fun W (hW:Ext wr W)=>HP W (b ||| 2 ^ k) (hEr.trans hW) hbk;rw[hP] at hcP;clear hz hP;go_wp2_with (first | (go_at_call 99;refine (m9 _ _ _ (HI.out _ hEr) Hgr).mono ?_;rintro e1 w1 ⟨rfl,hE1⟩;have hE01:=hEr.trans hE1) | (go_at_call 250;refine (hcP _ hE1).mono ?_;rintro e2 w2 ⟨rfl,hE2⟩;have hE12:=hE1.trans hE2));go_roundw;(case rel=>exact⟨k+1,c',by omega,by omega,by go_num,by rw[Hn.out];exact HB.out.ext hE12,by rw[Hn.out];exact HS.out.ext hE12,HC.out.ext hE12,HFw.out.trans (hE12.fw _),by rw[Hn.out];exact hb1,by rw[Hn.out];exact hb2⟩);case measure=>(simp[intOf];omega)
       · have Hn:Hid (o3 P (ord l) f b n fr s (k+1)=fsI P (ord l) f (b ||| 2 ^ k) (n+1) (k+1) z):=Lib.hid (by rw[b20 hlt hk1 hP,hz]);have hcP:=fun W (hW:Ext wr W)=>HP W (b ||| 2 ^ k) (hEr.trans hW) hbk;rw[hP] at hcP;have hcR:=fun W (hE:Ext wr W)=>Hih.out (b ||| 2 ^ k) (n+1) (k+1) W z c' (by omega) (by omega) hbk (by omega) hb1 hb2 (hEr.trans hE) (HB.out.ext hE) (HS.out.ext hE) (HC.out.ext hE) (hTr.ext hE);rw[show ((n+1:Nat):Int)=(n:Int)+1 by omega,show ((k+1:Nat):Int)=(k:Int)+1 by omega] at hcR;have kt:∀W,Ext wr W→W.cell? ⟨bT,0,none⟩=some (.func (.func 313) #[] #[.pointer (some ⟨bC,0,none⟩),.pointer (some ⟨bS,0,none⟩),.pointer (some ⟨bB,0,none⟩),.pointer (some ⟨bG,0,none⟩),.pointer (some ⟨bI,0,none⟩),.pointer (some ⟨bT,0,none⟩)]):=fun W hW=>(hTr.ext hW).cell (i:=0) rfl;clear hz hP;go_wp2_with (first | (go_at_call 99;refine (m9 _ _ _ (HI.out _ hEr) Hgr).mono ?_;rintro e1 w1 ⟨rfl,hE1⟩;have hE01:=hEr.trans hE1) | (go_at_call 250;refine (hcP _ hE1).mono ?_;rintro e2 w2 ⟨rfl,hE2⟩;have hE12:=hE1.trans hE2) | (go_at_call 313;refine (hcR _ hE12).mono ?_;rintro e3 w3 ⟨rfl,c3,hB3,hS3',hC3,hF3,hb3,hb4⟩));go_roundw;(case rel=>exact⟨k+1,c3,by omega,by omega,by go_num,by rw[Hn.out];exact hB3,by rw[Hn.out];exact hS3',hC3,HFw.out.trans ((hE12.fw _).trans hF3),by rw[Hn.out];exact hb3,by rw[Hn.out];exact hb4⟩);case measure=>(simp[intOf];omega)
     · have hkl:k=ord l:=(by omega);have Hn:Hid (fsI P (ord l) (f+1) b n fr s=z):=Lib.hid (by rw[b89 hob.2,hz,hkl]);clear hz;go_wp2_with (go_at_call 99;refine (m9 _ _ _ (HI.out _ hEr) Hgr).mono ?_;rintro e1 w1 ⟨rfl,hE1⟩;have hE01:=hEr.trans hE1);go_end0;exact⟨rfl,c',by rw[Hn.out];exact HB.out.ext hE1,by rw[Hn.out];exact HS.out.ext hE1,HC.out.ext hE1,HFw.out.trans (hE1.fw _),by rw[Hn.out];exact hb1,by rw[Hn.out];exact hb2⟩
  · have s0:=V5 (P:=P) (N:=ord l) (f:=f) (b:=b) (n:=n) (fr:=fr) (s:=s)
    rw[if_neg hq] at s0
    have HB0:Hid (Blk (w.setCell ⟨bC,0,none⟩ (.int .i64 (wrap64 (c+1)))) bB 3 #[.int .i64 (o3 P (ord l) f b n fr s fr).1]):=Lib.hid (by rw[s0];exact B1)
    have HS0:Hid (Blk (w.setCell ⟨bC,0,none⟩ (.int .i64 (wrap64 (c+1)))) bS 3 #[.int .i64 (o3 P (ord l) f b n fr s fr).2]):=Lib.hid (by rw[s0];exact S1)
    have HC0:=Lib.hid C1
    have HF0:=Lib.hid F1
    have Hb0:Hid (-1≤(o3 P (ord l) f b n fr s fr).2∧(o3 P (ord l) f b n fr s fr).2≤24):=Lib.hid (by rw[s0];exact⟨hs1,hs2⟩)
    clear s0 B1 S1 C1 F1 hB hS hC hc1
    go_enter Tryz.func313,Tryz.ntmps313
    go_wp2_with fail
    clear kc fc ks1 kb1 fb1 hq
    go_loopw [12] (fun xv wr=>∃(k:Nat) (c':Int),fr≤k∧k≤ord l∧xv=.int .i64 k∧Blk wr bB 3 #[.int .i64 (o3 P (ord l) f b n fr s k).1]∧Blk wr bS 3 #[.int .i64 (o3 P (ord l) f b n fr s k).2]∧Blk wr bC 3 #[.int .i64 c']∧Fw (S3 bC bS bB) w wr ∧ -1≤(o3 P (ord l) f b n fr s k).2∧(o3 P (ord l) f b n fr s k).2≤24) (fun x _=>ord l - (intOf x).toNat)
    case atStart=>exact⟨fr,_,by omega,by omega,rfl,HB0.out,HS0.out,HC0.out,HF0.out,Hb0.out.1,Hb0.out.2⟩
    case round =>
     obtain⟨k,c',hk1,hk2,rfl,hB,hS,hC,hF,hb1,hb2⟩:=hrel;clear HB0 HS0 HC0 HF0 Hb0;have hEr:=hF.ext hE0 hS3;have hTr:=hF.blk hT hT3;obtain⟨z,hz⟩:∃z,z=o3 P (ord l) f b n fr s k:=⟨_,rfl⟩;rw[←hz] at hB hS hb1 hb2;have HB:=Lib.hid hB;have HS:=Lib.hid hS;have HC:=Lib.hid hC;have HFw:=Lib.hid hF;clear hB hS hC hF;by_cases hlt:k<ord l
     · have hk24:k<24:=(by omega);have hs1':=p0 (n:=k) (by omega);have hs2':=F8 hb24 hk24;have hbk:b ||| 2 ^ k<2 ^ 24:=Nat.or_lt_two_pow hb24 (Nat.pow_lt_pow_right (by omega) hk24)
       cases hP:P (b ||| 2 ^ k)
       · have Hn:Hid (o3 P (ord l) f b n fr s (k+1)=z):=Lib.hid (by rw[b46 hP,hz]);have hcP:=fun W (hW:Ext wr W)=>HP W (b ||| 2 ^ k) (hEr.trans hW) hbk;rw[hP] at hcP;clear hz hP;go_wp2_with (first | (go_at_call 99;refine (m9 _ _ _ (HI.out _ hEr) Hgr).mono ?_;rintro e1 w1 ⟨rfl,hE1⟩;have hE01:=hEr.trans hE1) | (go_at_call 250;refine (hcP _ hE1).mono ?_;rintro e2 w2 ⟨rfl,hE2⟩;have hE12:=hE1.trans hE2));go_roundw;(case rel=>exact⟨k+1,c',by omega,by omega,by go_num,by rw[Hn.out];exact HB.out.ext hE12,by rw[Hn.out];exact HS.out.ext hE12,HC.out.ext hE12,HFw.out.trans (hE12.fw _),by rw[Hn.out];exact hb1,by rw[Hn.out];exact hb2⟩);case measure=>(simp[intOf];omega)
       · have Hn:Hid (o3 P (ord l) f b n fr s (k+1)=fsI P (ord l) f (b ||| 2 ^ k) (n+1) (k+1) z):=Lib.hid (by rw[b20 hlt hk1 hP,hz]);have hcP:=fun W (hW:Ext wr W)=>HP W (b ||| 2 ^ k) (hEr.trans hW) hbk;rw[hP] at hcP;have hcR:=fun W (hE:Ext wr W)=>Hih.out (b ||| 2 ^ k) (n+1) (k+1) W z c' (by omega) (by omega) hbk (by omega) hb1 hb2 (hEr.trans hE) (HB.out.ext hE) (HS.out.ext hE) (HC.out.ext hE) (hTr.ext hE);rw[show ((n+1:Nat):Int)=(n:Int)+1 by omega,show ((k+1:Nat):Int)=(k:Int)+1 by omega] at hcR;have kt:∀W,Ext wr W→W.cell? ⟨bT,0,none⟩=some (.func (.func 313) #[] #[.pointer (some ⟨bC,0,none⟩),.pointer (some ⟨bS,0,none⟩),.pointer (some ⟨bB,0,none⟩),.pointer (some ⟨bG,0,none⟩),.pointer (some ⟨bI,0,none⟩),.pointer (some ⟨bT,0,none⟩)]):=fun W hW=>(hTr.ext hW).cell (i:=0) rfl;clear hz hP;go_wp2_with (first | (go_at_call 99;refine (m9 _ _ _ (HI.out _ hEr) Hgr).mono ?_;rintro e1 w1 ⟨rfl,hE1⟩;have hE01:=hEr.trans hE1) | (go_at_call 250;refine (hcP _ hE1).mono ?_;rintro e2 w2 ⟨rfl,hE2⟩;have hE12:=hE1.trans hE2) | (go_at_call 313;refine (hcR _ hE12).mono ?_;rintro e3 w3 ⟨rfl,c3,hB3,hS3',hC3,hF3,hb3,hb4⟩));go_roundw;(case rel=>exact⟨k+1,c3,by omega,by omega,by go_num,by rw[Hn.out];exact hB3,by rw[Hn.out];exact hS3',hC3,HFw.out.trans ((hE12.fw _).trans hF3),by rw[Hn.out];exact hb3,by rw[Hn.out];exact hb4⟩);case measure=>(simp[intOf];omega)
     · have hkl:k=ord l:=(by omega);have Hn:Hid (fsI P (ord l) (f+1) b n fr s=z):=Lib.hid (by rw[b89 hob.2,hz,hkl]);clear hz;go_wp2_with (go_at_call 99;refine (m9 _ _ _ (HI.out _ hEr) Hgr).mono ?_;rintro e1 w1 ⟨rfl,hE1⟩;have hE01:=hEr.trans hE1);go_end0;exact⟨rfl,c',by rw[Hn.out];exact HB.out.ext hE1,by rw[Hn.out];exact HS.out.ext hE1,HC.out.ext hE1,HFw.out.trans (hE1.fw _),by rw[Hn.out];exact hb1,by rw[Hn.out];exact hb2⟩
theorem d94(v:Value)(l:List Int)(P:Nat→Bool)(Hgr:Hid (c9 l=true))(w:World)(h:c8 w v l)(p1 p2:Value)
 (HP:∀W b,Ext w W→b<2 ^ 24→Calls Tryz.prog 250 #[.int .i64 (b:Nat),p1] W fun e w'=>e=.returned (.bool (P b))∧Ext W w') :
 Calls Tryz.prog 249 #[.agg #[v],.func (.func 250) #[] #[p1]] w fun e w'=>∃c,e=.returned (.tuple #[.int .i64 (fsS P (ord l) (ord l+1) 0 0:Nat),.int .i64 c])∧Ext w w':=by
 have hob:=l8 Hgr.out;have hmf:∀(fn:Fn) (first cap:Array Value) (w:World),(Instr.makeFunc fn first cap).run Tryz.prog w=.ok (.func fn first cap) w:=fun _ _ _ _=>rfl;have He:=Lib.hid (cs4 P (ord l) hob.2 (ord l+1) 0 0 (0,-1) (by simp) (by omega));have HH:=Lib.hid h;have HPP:=Lib.hid HP;clear h HP;go_enter Tryz.func249,Tryz.ntmps249;go_wp2_with fail;obtain⟨w1,h1⟩:∃x,x=w.alloc (.cells #[v] 28):=⟨_,rfl⟩;obtain⟨w2,h2⟩:∃x,x=w1.alloc (.cells #[.func (.func 250) #[] #[p1]] 127):=⟨_,rfl⟩;obtain⟨w3,h3⟩:∃x,x=w2.alloc (.cells #[.int .i64 0] 3):=⟨_,rfl⟩;obtain⟨w4,h4⟩:∃x,x=w3.alloc (.cells #[.int .i64 (-1)] 3):=⟨_,rfl⟩;obtain⟨w5,h5⟩:∃x,x=w4.alloc (.cells #[.int .i64 0] 3):=⟨_,rfl⟩;obtain⟨w6,h6⟩:∃x,x=w5.alloc (.cells #[.func (.func 313) #[] #[.pointer (some ⟨w.heap.size+1+1+1+1,0,none⟩),.pointer (some ⟨w.heap.size+1+1+1,0,none⟩),.pointer (some ⟨w.heap.size+1+1,0,none⟩),.pointer (some ⟨w.heap.size,0,none⟩),.pointer (some ⟨w.heap.size+1,0,none⟩),.pointer (some ⟨w.heap.size+1+1+1+1+1,0,none⟩)]] 162):=⟨_,rfl⟩;rw[←h1,←h2,←h3,←h4,←h5,←h6];have s1:w1.heap.size=w.heap.size+1:=by rw[h1];simp
 have s2:w2.heap.size=w.heap.size+1+1:=by rw[h2];simp[s1]
 have s3:w3.heap.size=w.heap.size+1+1+1:=by rw[h3];simp[s2]
 have s4:w4.heap.size=w.heap.size+1+1+1+1:=by rw[h4];simp[s3]
 have s5:w5.heap.size=w.heap.size+1+1+1+1+1:=by rw[h5];simp[s4]
 have e01:Ext w w1:=by rw[h1];exact (Ext.refl _).alloc _
 have e12:Ext w1 w2:=by rw[h2];exact (Ext.refl _).alloc _
 have e23:Ext w2 w3:=by rw[h3];exact (Ext.refl _).alloc _
 have e34:Ext w3 w4:=by rw[h4];exact (Ext.refl _).alloc _
 have e45:Ext w4 w5:=by rw[h5];exact (Ext.refl _).alloc _
 have e56:Ext w5 w6:=by rw[h6];exact (Ext.refl _).alloc _
 have B1:Blk w1 w.heap.size 28 #[v]:=by rw[h1];exact Blk.new _ _ _
 have B2:Blk w2 (w.heap.size+1) 127 #[.func (.func 250) #[] #[p1]]:=by rw[h2,←s1];exact Blk.new _ _ _
 have B3:Blk w3 (w.heap.size+1+1) 3 #[.int .i64 ((0:Nat):Int)]:=by rw[h3,←s2];exact Blk.new _ _ _
 have B4:Blk w4 (w.heap.size+1+1+1) 3 #[.int .i64 (-1)]:=by rw[h4,←s3];exact Blk.new _ _ _
 have B5:Blk w5 (w.heap.size+1+1+1+1) 3 #[.int .i64 0]:=by rw[h5,←s4];exact Blk.new _ _ _
 have B6:Blk w6 (w.heap.size+1+1+1+1+1) 162 #[.func (.func 313) #[] #[.pointer (some ⟨w.heap.size+1+1+1+1,0,none⟩),.pointer (some ⟨w.heap.size+1+1+1,0,none⟩),.pointer (some ⟨w.heap.size+1+1,0,none⟩),.pointer (some ⟨w.heap.size,0,none⟩),.pointer (some ⟨w.heap.size+1,0,none⟩),.pointer (some ⟨w.heap.size+1+1+1+1+1,0,none⟩)]]:=by rw[h6,←s5];exact Blk.new _ _ _
 have e02:=e01.trans e12;have e26:=e23.trans (e34.trans (e45.trans e56));refine (d18 v l P Hgr w2 (w.heap.size+1+1+1+1) (w.heap.size+1+1+1) (w.heap.size+1+1) w.heap.size (w.heap.size+1) (w.heap.size+1+1+1+1+1) (by omega) (by omega) (by omega) (by omega) (by omega) (by omega) (by omega) (by omega) (by omega) p1 p2 (fun W hW=>((B1.ext e12).ext hW).cell (i:=0) rfl) (fun W hW=>(B2.ext hW).cell (i:=0) rfl) (Lib.hid fun W hW=>HH.out.ext (e02.trans hW)) (fun W b hW hb=>HPP.out W b (e02.trans hW) hb) (ord l+1) 0 0 0 w6 (0,-1) 0 (by omega) (by omega) (by decide) (by omega) (by simp) (by simp) e26 (B3.ext (e34.trans (e45.trans e56))) (B4.ext (e45.trans e56)) (B5.ext e56) B6).mono ?_;rintro e w7 ⟨rfl,c7,hB7,hS7,hC7,hF7,-,-⟩;have hc0:(cnt 0)=0:=S8;have hfin:(fsI P (ord l) (ord l+1) 0 0 0 (0,-1)).1=fsS P (ord l) (ord l+1) 0 0:=by
  have:=He.out;rw[hc0] at this;rw[this,if_pos (by show (-1:Int)<_;omega)]
 rw[hfin] at hB7;have hx7:=hB7.cell (i:=0) (v:=.int .i64 (fsS P (ord l) (ord l+1) 0 0:Nat)) rfl;have hy7:=hC7.cell (i:=0) (v:=.int .i64 c7) rfl;have hE7:Ext w w7:=hF7.ext (e02.trans e26) (by rintro k (rfl | rfl | rfl)<;>omega);have kx:=fun U=>b87 hx7 _ (b9 w7 U);have ky:=fun U=>b87 hy7 _ (b9 w7 U);have hE:=Ext.refl w7;clear hfin hc0 hx7 hy7 s1 s2 s3 s4 s5;go_wp2_with fail;(refine d0 (w7) (by kernel_rfl) (by kernel_rfl) hE ?_);(repeat (go_big_quiet_step (first | fail)));(refine wpQuiet_nil ?_);(intro W hE');(replace hE:=l7 hE');(clear hE');go_wp2_with fail;exact bodyPost_ret (v:=.tuple #[.int .i64 (fsS P (ord l) (ord l+1) 0 0:Nat),.int .i64 c7]) (by simp[results,Tryz.results249,go_sem]) rfl ⟨_,rfl,hE7.trans hE⟩
theorem dx5(v:Value)(l:List Int)(b bG:Nat)(w:World)(hG:∀W,Ext w W→W.cell? ⟨bG,0,none⟩=some v)(h:c8 w v l) :
 Calls Tryz.prog 250 #[.int .i64 b,.pointer (some ⟨bG,0,none⟩)] w fun e w'=>e=.returned (.bool (I1 l b))∧Ext w w':=by
 have kG:=hG _ (Ext.refl w);have hc:=bo5 v l (b:Int) w h;clear hG h;go_enter Tryz.func250,Tryz.ntmps250;go_wp2_with fail;refine hc.mono ?_;rintro e w1 ⟨rfl,hE1⟩;go_wp2_with fail;go_ret;exact⟨rfl,hE1⟩
theorem bq6(v:Value)(l:List Int)(w:World)(h:c8 w v l) :
 Calls Tryz.prog 142 #[.agg #[v]] w fun e w'=>e=.returned (.tuple #[.int .i64 (lgV (I1 l) l 16:Nat),.bool (lgB l 16)])∧Ext w w':=by
 obtain⟨wb,Hwb,hE0,hb,hg,hE,Hsz⟩:=j60 28 h;clear h;have hbx:=hb wb hE;have hmf:∀(fn:Fn) (first cap:Array Value) (w:World),(Instr.makeFunc fn first cap).run Tryz.prog w=.ok (.func fn first cap) w:=fun _ _ _ _=>rfl;have cG:=l0 v l wb (hg _ hE);cases hgr:c9 l
 · have hB:lgB l 16=false:=(by unfold lgB;rw[hgr];rfl);have Hs:=Lib.hid (And.intro hB (b02 (P:=I1 l) hB));rw[hgr] at cG;clear hB;go_enter Tryz.func142,Tryz.ntmps142;go_wp2_with fail;rw[←Hwb.out];refine cG.mono ?_;rintro e w1 ⟨rfl,hE1⟩;go_wp2_with fail;exact bodyPost_ret (v:=.tuple #[.int .i64 0,.bool false]) (by simp[results,Tryz.results142,go_sem]) rfl ⟨by rw[Hs.out.1,Hs.out.2];rfl,hE0.trans hE1⟩
 rw[hgr] at cG;have Hgr:=Lib.hid hgr;have hob:=l8 hgr;have cO:=fun W (hW:Ext wb W)=>m9 v l W (hg _ hW) Hgr;by_cases hm:ord l≤16;rotate_left
 · have hB:lgB l 16=false:=(by unfold lgB;rw[hgr];simpa using hm);have Hs:=Lib.hid (And.intro hB (b02 (P:=I1 l) hB));clear hB;go_enter Tryz.func142,Tryz.ntmps142;go_wp2_with fail;rw[←Hwb.out];refine cG.mono ?_;rintro e w1 ⟨rfl,hE1⟩;have hb1:=hb w1 hE1;go_wp2_with (refine (cO _ hE1).mono ?_;rintro e w2 ⟨rfl,hE2⟩);exact bodyPost_ret (v:=.tuple #[.int .i64 0,.bool false]) (by simp[results,Tryz.results142,go_sem]) rfl ⟨by rw[Hs.out.1,Hs.out.2];rfl,hE0.trans (hE1.trans hE2)⟩
 have hB:lgB l 16=true:=by unfold lgB;rw[hgr];simpa using hm
 have Hs:=Lib.hid (And.intro hB (bi9 (P:=I1 l) hB));have cF:=fun W (hW:Ext wb W)=>d94 v l (I1 l) Hgr W (hg W hW) (.pointer (some ⟨w.heap.size,0,none⟩)) (.pointer none) (fun W' b hW' hb'=>dx5 v l b w.heap.size W' (fun X hX=>hb X (hW.trans (hW'.trans hX))) (hg W' (hW.trans hW')));obtain⟨R,hR⟩:∃R,R=fsS (I1 l) (ord l) (ord l+1) 0 0:=⟨_,rfl⟩;rw[←hR] at cF Hs;clear hB hgr hR;go_enter Tryz.func142,Tryz.ntmps142;go_wp2_with fail;rw[←Hwb.out];refine cG.mono ?_;rintro e w1 ⟨rfl,hE1⟩;have hb1:=hb w1 hE1;go_wp2_with (go_at_call 99;refine (cO _ hE1).mono ?_;rintro e w2 ⟨rfl,hE2⟩;have hE12:=hE1.trans hE2;have hb2:=hb w2 hE12);refine (cF _ hE12).mono ?_;rintro e w3 ⟨c,rfl,hE3⟩;go_wp2_with fail;exact bodyPost_ret (v:=.tuple #[.int .i64 R,.bool true]) (by simp[results,Tryz.results142,go_sem]) rfl ⟨by rw[Hs.out.1,Hs.out.2],hE0.trans (hE12.trans hE3)⟩
theorem d19(v:Value)(l:List Int)(P:Nat→Bool)(Hgr:Hid (c9 l=true))(W0:World)(bC bS bB bG bI bT:Nat)(hCS:bC≠bS)(hCB:bC≠bB)(hSB:bS≠bB)(hTC:bT≠bC)(hTS:bT≠bS)(hTB:bT≠bB)(h0C:W0.heap.size≤bC)(h0S:W0.heap.size≤bS)(h0B:W0.heap.size≤bB)
 (p1 p2:Value) (HG:∀W,Ext W0 W→W.cell? ⟨bG,0,none⟩=some v) (HF:∀W,Ext W0 W→W.cell? ⟨bI,0,none⟩=some (.func (.func 251) #[] #[p1])) (HI:Hid (∀W,Ext W0 W→c8 W v l))
 (HP:∀W b,Ext W0 W→b<2 ^ 24→Calls Tryz.prog 251 #[.int .i64 (b:Nat),p1] W fun e w'=>e=.returned (.bool (P b))∧Ext W w') :
 ∀(f b n fr:Nat) (w:World) (s:Nat × Int) (c:Int),ord l<fr+f→fr≤ord l→b<2 ^ 24→n≤fr → -1≤s.2→s.2≤24→Ext W0 w→Blk w bB 3 #[.int .i64 s.1]→Blk w bS 3 #[.int .i64 s.2]→Blk w bC 3 #[.int .i64 c] →
 Blk w bT 162 #[.func (.func 313) #[] #[.pointer (some ⟨bC,0,none⟩),.pointer (some ⟨bS,0,none⟩),.pointer (some ⟨bB,0,none⟩),.pointer (some ⟨bG,0,none⟩),.pointer (some ⟨bI,0,none⟩),.pointer (some ⟨bT,0,none⟩)]] →
 Calls Tryz.prog 313 #[.int .i64 b,.int .i64 n,.int .i64 fr,.pointer (some ⟨bC,0,none⟩),.pointer (some ⟨bS,0,none⟩),.pointer (some ⟨bB,0,none⟩),.pointer (some ⟨bG,0,none⟩),.pointer (some ⟨bI,0,none⟩),.pointer (some ⟨bT,0,none⟩)] w fun e w' =>
  e=.returned (.tuple #[])∧∃c',Blk w' bB 3 #[.int .i64 (fsI P (ord l) f b n fr s).1]∧Blk w' bS 3 #[.int .i64 (fsI P (ord l) f b n fr s).2]∧Blk w' bC 3 #[.int .i64 c']∧Fw (S3 bC bS bB) w w' ∧ -1≤(fsI P (ord l) f b n fr s).2∧(fsI P (ord l) f b n fr s).2≤24:=by
 intro f
 induction f with
 | zero=>intro b n fr w s c hf hfr;omega
 | succ f ih =>
  intro b n fr w s c hf hfr hb24 hn hs1 hs2 hE0 hB hS hC hT
  have hob:=l8 Hgr.out
  have Hih:=Lib.hid ih
  clear ih
  obtain⟨c1,hc1⟩:∃c1,c1=wrap64 (c+1):=⟨_,rfl⟩
  have kc:=hC.cell (i:=0) (v:=.int .i64 c) rfl
  have fc:=hC.free 0
  have B1:Blk (w.setCell ⟨bC,0,none⟩ (.int .i64 (wrap64 (c+1)))) bB 3 #[.int .i64 s.1]:=hB.other (by simpa using hCB.symm) _
  have S1:Blk (w.setCell ⟨bC,0,none⟩ (.int .i64 (wrap64 (c+1)))) bS 3 #[.int .i64 s.2]:=hS.other (by simpa using hCS.symm) _
  have C1:Blk (w.setCell ⟨bC,0,none⟩ (.int .i64 (wrap64 (c+1)))) bC 3 #[.int .i64 (wrap64 (c+1))]:=hC.set 0 _
  have F1:Fw (S3 bC bS bB) w (w.setCell ⟨bC,0,none⟩ (.int .i64 (wrap64 (c+1)))):=Z8 (Or.inl rfl) w 0 _
  have ks1:=S1.cell (i:=0) (v:=.int .i64 s.2) rfl
  have kb1:=B1.cell (i:=0) (v:=.int .i64 s.1) rfl
  have fb1:=B1.free 0
  have hS3:∀k,S3 bC bS bB k→W0.heap.size≤k:=by rintro k (rfl | rfl | rfl)<;>assumption
  have hT3:¬S3 bC bS bB bT:=by rintro (h | h | h)<;>contradiction
  by_cases hq:s.2<(n:Int)
  · have B2:Blk ((w.setCell ⟨bC,0,none⟩ (.int .i64 (wrap64 (c+1)))).setCell ⟨bB,0,none⟩ (.int .i64 b)) bB 3 #[.int .i64 b]:=B1.set 0 _
    have S2:Blk ((w.setCell ⟨bC,0,none⟩ (.int .i64 (wrap64 (c+1)))).setCell ⟨bB,0,none⟩ (.int .i64 b)) bS 3 #[.int .i64 s.2]:=S1.other (by simpa using hSB) _
    have C2:Blk ((w.setCell ⟨bC,0,none⟩ (.int .i64 (wrap64 (c+1)))).setCell ⟨bB,0,none⟩ (.int .i64 b)) bC 3 #[.int .i64 (wrap64 (c+1))]:=C1.other (by simpa using hCB) _
    have ks2:=S2.cell (i:=0) (v:=.int .i64 s.2) rfl
    have fs2:=S2.free 0
    have s0:=V5 (P:=P) (N:=ord l) (f:=f) (b:=b) (n:=n) (fr:=fr) (s:=s)
    rw[if_pos hq] at s0
    have HB0:Hid (Blk (((w.setCell ⟨bC,0,none⟩ (.int .i64 (wrap64 (c+1)))).setCell ⟨bB,0,none⟩ (.int .i64 b)).setCell ⟨bS,0,none⟩ (.int .i64 n)) bB 3 #[.int .i64 (o3 P (ord l) f b n fr s fr).1]):=Lib.hid (by rw[s0];exact B2.other (by simpa using hSB.symm) _)
    have HS0:Hid (Blk (((w.setCell ⟨bC,0,none⟩ (.int .i64 (wrap64 (c+1)))).setCell ⟨bB,0,none⟩ (.int .i64 b)).setCell ⟨bS,0,none⟩ (.int .i64 n)) bS 3 #[.int .i64 (o3 P (ord l) f b n fr s fr).2]):=Lib.hid (by rw[s0];exact S2.set 0 _)
    have HC0:Hid (Blk (((w.setCell ⟨bC,0,none⟩ (.int .i64 (wrap64 (c+1)))).setCell ⟨bB,0,none⟩ (.int .i64 b)).setCell ⟨bS,0,none⟩ (.int .i64 n)) bC 3 #[.int .i64 (wrap64 (c+1))]):=Lib.hid (C2.other (by simpa using hCS) _)
    have HF0:Hid (Fw (S3 bC bS bB) w (((w.setCell ⟨bC,0,none⟩ (.int .i64 (wrap64 (c+1)))).setCell ⟨bB,0,none⟩ (.int .i64 b)).setCell ⟨bS,0,none⟩ (.int .i64 n))):=Lib.hid ((F1.trans (Z8 (Or.inr (Or.inr rfl)) _ 0 _)).trans (Z8 (Or.inr (Or.inl rfl)) _ 0 _))
    have Hb0:Hid (-1≤(o3 P (ord l) f b n fr s fr).2∧(o3 P (ord l) f b n fr s fr).2≤24):=Lib.hid (by rw[s0];simp only;omega)
    clear s0 B1 S1 C1 F1 B2 S2 C2 hB hS hC hc1
    go_enter Tryz.func313,Tryz.ntmps313
    go_wp2_with fail
    clear kc fc ks1 kb1 fb1 ks2 fs2 hq
    go_loopw [12] (fun xv wr=>∃(k:Nat) (c':Int),fr≤k∧k≤ord l∧xv=.int .i64 k∧Blk wr bB 3 #[.int .i64 (o3 P (ord l) f b n fr s k).1]∧Blk wr bS 3 #[.int .i64 (o3 P (ord l) f b n fr s k).2]∧Blk wr bC 3 #[.int .i64 c']∧Fw (S3 bC bS bB) w wr ∧ -1≤(o3 P (ord l) f b n fr s k).2∧(o3 P (ord l) f b n fr s k).2≤24) (fun x _=>ord l - (intOf x).toNat)
    case atStart=>exact⟨fr,_,by omega,by omega,rfl,HB0.out,HS0.out,HC0.out,HF0.out,Hb0.out.1,Hb0.out.2⟩
    case round =>
     obtain⟨k,c',hk1,hk2,rfl,hB,hS,hC,hF,hb1,hb2⟩:=hrel;clear HB0 HS0 HC0 HF0 Hb0;have hEr:=hF.ext hE0 hS3;have hTr:=hF.blk hT hT3;obtain⟨z,hz⟩:∃z,z=o3 P (ord l) f b n fr s k:=⟨_,rfl⟩;rw[←hz] at hB hS hb1 hb2;have HB:=Lib.hid hB;have HS:=Lib.hid hS;have HC:=Lib.hid hC;have HFw:=Lib.hid hF;clear hB hS hC hF;by_cases hlt:k<ord l
     · have hk24:k<24:=(by omega);have hs1':=p0 (n:=k) (by omega);have hs2':=F8 hb24 hk24;have hbk:b ||| 2 ^ k<2 ^ 24:=Nat.or_lt_two_pow hb24 (Nat.pow_lt_pow_right (by omega) hk24)
       cases hP:P (b ||| 2 ^ k)
       · have Hn:Hid (o3 P (ord l) f b n fr s (k+1)=z):=Lib.hid (by rw[b46 hP,hz]);have hcP:=fun W (hW:Ext wr W)=>HP W (b ||| 2 ^ k) (hEr.trans hW) hbk;rw[hP] at hcP;clear hz hP;go_wp2_with (first | (go_at_call 99;refine (m9 _ _ _ (HI.out _ hEr) Hgr).mono ?_;rintro e1 w1 ⟨rfl,hE1⟩;have hE01:=hEr.trans hE1) | (go_at_call 251;refine (hcP _ hE1).mono ?_;rintro e2 w2 ⟨rfl,hE2⟩;have hE12:=hE1.trans hE2));go_roundw;(case rel=>exact⟨k+1,c',by omega,by omega,by go_num,by rw[Hn.out];exact HB.out.ext hE12,by rw[Hn.out];exact HS.out.ext hE12,HC.out.ext hE12,HFw.out.trans (hE12.fw _),by rw[Hn.out];exact hb1,by rw[Hn.out];exact hb2⟩);case measure=>(simp[intOf];omega)
       · have Hn:Hid (o3 P (ord l) f b n fr s (k+1)=fsI P (ord l) f (b ||| 2 ^ k) (n+1) (k+1) z):=Lib.hid (by rw[b20 hlt hk1 hP,hz]);have hcP:=fun W (hW:Ext wr W)=>HP W (b ||| 2 ^ k) (hEr.trans hW) hbk;rw[hP] at hcP;have hcR:=fun W (hE:Ext wr W)=>Hih.out (b ||| 2 ^ k) (n+1) (k+1) W z c' (by omega) (by omega) hbk (by omega) hb1 hb2 (hEr.trans hE) (HB.out.ext hE) (HS.out.ext hE) (HC.out.ext hE) (hTr.ext hE);rw[show ((n+1:Nat):Int)=(n:Int)+1 by omega,show ((k+1:Nat):Int)=(k:Int)+1 by omega] at hcR;have kt:∀W,Ext wr W→W.cell? ⟨bT,0,none⟩=some (.func (.func 313) #[] #[.pointer (some ⟨bC,0,none⟩),.pointer (some ⟨bS,0,none⟩),.pointer (some ⟨bB,0,none⟩),.pointer (some ⟨bG,0,none⟩),.pointer (some ⟨bI,0,none⟩),.pointer (some ⟨bT,0,none⟩)]):=fun W hW=>(hTr.ext hW).cell (i:=0) rfl;clear hz hP;go_wp2_with (first | (go_at_call 99;refine (m9 _ _ _ (HI.out _ hEr) Hgr).mono ?_;rintro e1 w1 ⟨rfl,hE1⟩;have hE01:=hEr.trans hE1) | (go_at_call 251;refine (hcP _ hE1).mono ?_;rintro e2 w2 ⟨rfl,hE2⟩;have hE12:=hE1.trans hE2) | (go_at_call 313;refine (hcR _ hE12).mono ?_;rintro e3 w3 ⟨rfl,c3,hB3,hS3',hC3,hF3,hb3,hb4⟩));go_roundw;(case rel=>exact⟨k+1,c3,by omega,by omega,by go_num,by rw[Hn.out];exact hB3,by rw[Hn.out];exact hS3',hC3,HFw.out.trans ((hE12.fw _).trans hF3),by rw[Hn.out];exact hb3,by rw[Hn.out];exact hb4⟩);case measure=>(simp[intOf];omega)
     · have hkl:k=ord l:=(by omega);have Hn:Hid (fsI P (ord l) (f+1) b n fr s=z):=Lib.hid (by rw[b89 hob.2,hz,hkl]);clear hz;go_wp2_with (go_at_call 99;refine (m9 _ _ _ (HI.out _ hEr) Hgr).mono ?_;rintro e1 w1 ⟨rfl,hE1⟩;have hE01:=hEr.trans hE1);go_end0;exact⟨rfl,c',by rw[Hn.out];exact HB.out.ext hE1,by rw[Hn.out];exact HS.out.ext hE1,HC.out.ext hE1,HFw.out.trans (hE1.fw _),by rw[Hn.out];exact hb1,by rw[Hn.out];exact hb2⟩
  · have s0:=V5 (P:=P) (N:=ord l) (f:=f) (b:=b) (n:=n) (fr:=fr) (s:=s)
    rw[if_neg hq] at s0
    have HB0:Hid (Blk (w.setCell ⟨bC,0,none⟩ (.int .i64 (wrap64 (c+1)))) bB 3 #[.int .i64 (o3 P (ord l) f b n fr s fr).1]):=Lib.hid (by rw[s0];exact B1)
    have HS0:Hid (Blk (w.setCell ⟨bC,0,none⟩ (.int .i64 (wrap64 (c+1)))) bS 3 #[.int .i64 (o3 P (ord l) f b n fr s fr).2]):=Lib.hid (by rw[s0];exact S1)
    have HC0:=Lib.hid C1
    have HF0:=Lib.hid F1
    have Hb0:Hid (-1≤(o3 P (ord l) f b n fr s fr).2∧(o3 P (ord l) f b n fr s fr).2≤24):=Lib.hid (by rw[s0];exact⟨hs1,hs2⟩)
    clear s0 B1 S1 C1 F1 hB hS hC hc1
    go_enter Tryz.func313,Tryz.ntmps313
    go_wp2_with fail
    clear kc fc ks1 kb1 fb1 hq
    go_loopw [12] (fun xv wr=>∃(k:Nat) (c':Int),fr≤k∧k≤ord l∧xv=.int .i64 k∧Blk wr bB 3 #[.int .i64 (o3 P (ord l) f b n fr s k).1]∧Blk wr bS 3 #[.int .i64 (o3 P (ord l) f b n fr s k).2]∧Blk wr bC 3 #[.int .i64 c']∧Fw (S3 bC bS bB) w wr ∧ -1≤(o3 P (ord l) f b n fr s k).2∧(o3 P (ord l) f b n fr s k).2≤24) (fun x _=>ord l - (intOf x).toNat)
    case atStart=>exact⟨fr,_,by omega,by omega,rfl,HB0.out,HS0.out,HC0.out,HF0.out,Hb0.out.1,Hb0.out.2⟩
    case round =>
     obtain⟨k,c',hk1,hk2,rfl,hB,hS,hC,hF,hb1,hb2⟩:=hrel;clear HB0 HS0 HC0 HF0 Hb0;have hEr:=hF.ext hE0 hS3;have hTr:=hF.blk hT hT3;obtain⟨z,hz⟩:∃z,z=o3 P (ord l) f b n fr s k:=⟨_,rfl⟩;rw[←hz] at hB hS hb1 hb2;have HB:=Lib.hid hB;have HS:=Lib.hid hS;have HC:=Lib.hid hC;have HFw:=Lib.hid hF;clear hB hS hC hF;by_cases hlt:k<ord l
     · have hk24:k<24:=(by omega);have hs1':=p0 (n:=k) (by omega);have hs2':=F8 hb24 hk24;have hbk:b ||| 2 ^ k<2 ^ 24:=Nat.or_lt_two_pow hb24 (Nat.pow_lt_pow_right (by omega) hk24)
       cases hP:P (b ||| 2 ^ k)
       · have Hn:Hid (o3 P (ord l) f b n fr s (k+1)=z):=Lib.hid (by rw[b46 hP,hz]);have hcP:=fun W (hW:Ext wr W)=>HP W (b ||| 2 ^ k) (hEr.trans hW) hbk;rw[hP] at hcP;clear hz hP;go_wp2_with (first | (go_at_call 99;refine (m9 _ _ _ (HI.out _ hEr) Hgr).mono ?_;rintro e1 w1 ⟨rfl,hE1⟩;have hE01:=hEr.trans hE1) | (go_at_call 251;refine (hcP _ hE1).mono ?_;rintro e2 w2 ⟨rfl,hE2⟩;have hE12:=hE1.trans hE2));go_roundw;(case rel=>exact⟨k+1,c',by omega,by omega,by go_num,by rw[Hn.out];exact HB.out.ext hE12,by rw[Hn.out];exact HS.out.ext hE12,HC.out.ext hE12,HFw.out.trans (hE12.fw _),by rw[Hn.out];exact hb1,by rw[Hn.out];exact hb2⟩);case measure=>(simp[intOf];omega)
       · have Hn:Hid (o3 P (ord l) f b n fr s (k+1)=fsI P (ord l) f (b ||| 2 ^ k) (n+1) (k+1) z):=Lib.hid (by rw[b20 hlt hk1 hP,hz]);have hcP:=fun W (hW:Ext wr W)=>HP W (b ||| 2 ^ k) (hEr.trans hW) hbk;rw[hP] at hcP;have hcR:=fun W (hE:Ext wr W)=>Hih.out (b ||| 2 ^ k) (n+1) (k+1) W z c' (by omega) (by omega) hbk (by omega) hb1 hb2 (hEr.trans hE) (HB.out.ext hE) (HS.out.ext hE) (HC.out.ext hE) (hTr.ext hE);rw[show ((n+1:Nat):Int)=(n:Int)+1 by omega,show ((k+1:Nat):Int)=(k:Int)+1 by omega] at hcR;have kt:∀W,Ext wr W→W.cell? ⟨bT,0,none⟩=some (.func (.func 313) #[] #[.pointer (some ⟨bC,0,none⟩),.pointer (some ⟨bS,0,none⟩),.pointer (some ⟨bB,0,none⟩),.pointer (some ⟨bG,0,none⟩),.pointer (some ⟨bI,0,none⟩),.pointer (some ⟨bT,0,none⟩)]):=fun W hW=>(hTr.ext hW).cell (i:=0) rfl;clear hz hP;go_wp2_with (first | (go_at_call 99;refine (m9 _ _ _ (HI.out _ hEr) Hgr).mono ?_;rintro e1 w1 ⟨rfl,hE1⟩;have hE01:=hEr.trans hE1) | (go_at_call 251;refine (hcP _ hE1).mono ?_;rintro e2 w2 ⟨rfl,hE2⟩;have hE12:=hE1.trans hE2) | (go_at_call 313;refine (hcR _ hE12).mono ?_;rintro e3 w3 ⟨rfl,c3,hB3,hS3',hC3,hF3,hb3,hb4⟩));go_roundw;(case rel=>exact⟨k+1,c3,by omega,by omega,by go_num,by rw[Hn.out];exact hB3,by rw[Hn.out];exact hS3',hC3,HFw.out.trans ((hE12.fw _).trans hF3),by rw[Hn.out];exact hb3,by rw[Hn.out];exact hb4⟩);case measure=>(simp[intOf];omega)
     · have hkl:k=ord l:=(by omega);have Hn:Hid (fsI P (ord l) (f+1) b n fr s=z):=Lib.hid (by rw[b89 hob.2,hz,hkl]);clear hz;go_wp2_with (go_at_call 99;refine (m9 _ _ _ (HI.out _ hEr) Hgr).mono ?_;rintro e1 w1 ⟨rfl,hE1⟩;have hE01:=hEr.trans hE1);go_end0;exact⟨rfl,c',by rw[Hn.out];exact HB.out.ext hE1,by rw[Hn.out];exact HS.out.ext hE1,HC.out.ext hE1,HFw.out.trans (hE1.fw _),by rw[Hn.out];exact hb1,by rw[Hn.out];exact hb2⟩
theorem d95(v:Value)(l:List Int)(P:Nat→Bool)(Hgr:Hid (c9 l=true))(w:World)(h:c8 w v l)(p1 p2:Value)
 (HP:∀W b,Ext w W→b<2 ^ 24→Calls Tryz.prog 251 #[.int .i64 (b:Nat),p1] W fun e w'=>e=.returned (.bool (P b))∧Ext W w') :
 Calls Tryz.prog 249 #[.agg #[v],.func (.func 251) #[] #[p1]] w fun e w'=>∃c,e=.returned (.tuple #[.int .i64 (fsS P (ord l) (ord l+1) 0 0:Nat),.int .i64 c])∧Ext w w':=by
 have hob:=l8 Hgr.out;have hmf:∀(fn:Fn) (first cap:Array Value) (w:World),(Instr.makeFunc fn first cap).run Tryz.prog w=.ok (.func fn first cap) w:=fun _ _ _ _=>rfl;have He:=Lib.hid (cs4 P (ord l) hob.2 (ord l+1) 0 0 (0,-1) (by simp) (by omega));have HH:=Lib.hid h;have HPP:=Lib.hid HP;clear h HP;go_enter Tryz.func249,Tryz.ntmps249;go_wp2_with fail;obtain⟨w1,h1⟩:∃x,x=w.alloc (.cells #[v] 28):=⟨_,rfl⟩;obtain⟨w2,h2⟩:∃x,x=w1.alloc (.cells #[.func (.func 251) #[] #[p1]] 127):=⟨_,rfl⟩;obtain⟨w3,h3⟩:∃x,x=w2.alloc (.cells #[.int .i64 0] 3):=⟨_,rfl⟩;obtain⟨w4,h4⟩:∃x,x=w3.alloc (.cells #[.int .i64 (-1)] 3):=⟨_,rfl⟩;obtain⟨w5,h5⟩:∃x,x=w4.alloc (.cells #[.int .i64 0] 3):=⟨_,rfl⟩;obtain⟨w6,h6⟩:∃x,x=w5.alloc (.cells #[.func (.func 313) #[] #[.pointer (some ⟨w.heap.size+1+1+1+1,0,none⟩),.pointer (some ⟨w.heap.size+1+1+1,0,none⟩),.pointer (some ⟨w.heap.size+1+1,0,none⟩),.pointer (some ⟨w.heap.size,0,none⟩),.pointer (some ⟨w.heap.size+1,0,none⟩),.pointer (some ⟨w.heap.size+1+1+1+1+1,0,none⟩)]] 162):=⟨_,rfl⟩;rw[←h1,←h2,←h3,←h4,←h5,←h6];have s1:w1.heap.size=w.heap.size+1:=by rw[h1];simp
 have s2:w2.heap.size=w.heap.size+1+1:=by rw[h2];simp[s1]
 have s3:w3.heap.size=w.heap.size+1+1+1:=by rw[h3];simp[s2]
 have s4:w4.heap.size=w.heap.size+1+1+1+1:=by rw[h4];simp[s3]
 have s5:w5.heap.size=w.heap.size+1+1+1+1+1:=by rw[h5];simp[s4]
 have e01:Ext w w1:=by rw[h1];exact (Ext.refl _).alloc _
 have e12:Ext w1 w2:=by rw[h2];exact (Ext.refl _).alloc _
 have e23:Ext w2 w3:=by rw[h3];exact (Ext.refl _).alloc _
 have e34:Ext w3 w4:=by rw[h4];exact (Ext.refl _).alloc _
 have e45:Ext w4 w5:=by rw[h5];exact (Ext.refl _).alloc _
 have e56:Ext w5 w6:=by rw[h6];exact (Ext.refl _).alloc _
 have B1:Blk w1 w.heap.size 28 #[v]:=by rw[h1];exact Blk.new _ _ _
 have B2:Blk w2 (w.heap.size+1) 127 #[.func (.func 251) #[] #[p1]]:=by rw[h2,←s1];exact Blk.new _ _ _
 have B3:Blk w3 (w.heap.size+1+1) 3 #[.int .i64 ((0:Nat):Int)]:=by rw[h3,←s2];exact Blk.new _ _ _
 have B4:Blk w4 (w.heap.size+1+1+1) 3 #[.int .i64 (-1)]:=by rw[h4,←s3];exact Blk.new _ _ _
 have B5:Blk w5 (w.heap.size+1+1+1+1) 3 #[.int .i64 0]:=by rw[h5,←s4];exact Blk.new _ _ _
 have B6:Blk w6 (w.heap.size+1+1+1+1+1) 162 #[.func (.func 313) #[] #[.pointer (some ⟨w.heap.size+1+1+1+1,0,none⟩),.pointer (some ⟨w.heap.size+1+1+1,0,none⟩),.pointer (some ⟨w.heap.size+1+1,0,none⟩),.pointer (some ⟨w.heap.size,0,none⟩),.pointer (some ⟨w.heap.size+1,0,none⟩),.pointer (some ⟨w.heap.size+1+1+1+1+1,0,none⟩)]]:=by rw[h6,←s5];exact Blk.new _ _ _
 have e02:=e01.trans e12;have e26:=e23.trans (e34.trans (e45.trans e56));refine (d19 v l P Hgr w2 (w.heap.size+1+1+1+1) (w.heap.size+1+1+1) (w.heap.size+1+1) w.heap.size (w.heap.size+1) (w.heap.size+1+1+1+1+1) (by omega) (by omega) (by omega) (by omega) (by omega) (by omega) (by omega) (by omega) (by omega) p1 p2 (fun W hW=>((B1.ext e12).ext hW).cell (i:=0) rfl) (fun W hW=>(B2.ext hW).cell (i:=0) rfl) (Lib.hid fun W hW=>HH.out.ext (e02.trans hW)) (fun W b hW hb=>HPP.out W b (e02.trans hW) hb) (ord l+1) 0 0 0 w6 (0,-1) 0 (by omega) (by omega) (by decide) (by omega) (by simp) (by simp) e26 (B3.ext (e34.trans (e45.trans e56))) (B4.ext (e45.trans e56)) (B5.ext e56) B6).mono ?_;rintro e w7 ⟨rfl,c7,hB7,hS7,hC7,hF7,-,-⟩;have hc0:(cnt 0)=0:=S8;have hfin:(fsI P (ord l) (ord l+1) 0 0 0 (0,-1)).1=fsS P (ord l) (ord l+1) 0 0:=by
  have:=He.out;rw[hc0] at this;rw[this,if_pos (by show (-1:Int)<_;omega)]
 rw[hfin] at hB7;have hx7:=hB7.cell (i:=0) (v:=.int .i64 (fsS P (ord l) (ord l+1) 0 0:Nat)) rfl;have hy7:=hC7.cell (i:=0) (v:=.int .i64 c7) rfl;have hE7:Ext w w7:=hF7.ext (e02.trans e26) (by rintro k (rfl | rfl | rfl)<;>omega);have kx:=fun U=>b87 hx7 _ (b9 w7 U);have ky:=fun U=>b87 hy7 _ (b9 w7 U);have hE:=Ext.refl w7;clear hfin hc0 hx7 hy7 s1 s2 s3 s4 s5;go_wp2_with fail;(refine d0 (w7) (by kernel_rfl) (by kernel_rfl) hE ?_);(repeat (go_big_quiet_step (first | fail)));(refine wpQuiet_nil ?_);(intro W hE');(replace hE:=l7 hE');(clear hE');go_wp2_with fail;exact bodyPost_ret (v:=.tuple #[.int .i64 (fsS P (ord l) (ord l+1) 0 0:Nat),.int .i64 c7]) (by simp[results,Tryz.results249,go_sem]) rfl ⟨_,rfl,hE7.trans hE⟩
theorem dx8(v:Value)(l:List Int)(b bG:Nat)(w:World)(hG:∀W,Ext w W→W.cell? ⟨bG,0,none⟩=some v)(h:c8 w v l) :
 Calls Tryz.prog 251 #[.int .i64 b,.pointer (some ⟨bG,0,none⟩)] w fun e w'=>e=.returned (.bool (sidP l b))∧Ext w w':=by
 have kG:=hG _ (Ext.refl w);have hc:=bf7 v l (b:Int) w h;clear hG h;go_enter Tryz.func251,Tryz.ntmps251;go_wp2_with fail;refine hc.mono ?_;rintro e w1 ⟨rfl,hE1⟩;go_wp2_with fail;go_ret;exact⟨rfl,hE1⟩
theorem c16(v:Value)(l:List Int)(w:World)(h:c8 w v l) :
 Calls Tryz.prog 143 #[.agg #[v]] w fun e w'=>e=.returned (.tuple #[.int .i64 (lgV (sidP l) l 13:Nat),.bool (lgB l 13)])∧Ext w w':=by
 obtain⟨wb,Hwb,hE0,hb,hg,hE,Hsz⟩:=j60 28 h;clear h;have hbx:=hb wb hE;have hmf:∀(fn:Fn) (first cap:Array Value) (w:World),(Instr.makeFunc fn first cap).run Tryz.prog w=.ok (.func fn first cap) w:=fun _ _ _ _=>rfl;have cG:=l0 v l wb (hg _ hE);cases hgr:c9 l
 · have hB:lgB l 13=false:=(by unfold lgB;rw[hgr];rfl);have Hs:=Lib.hid (And.intro hB (b02 (P:=sidP l) hB));rw[hgr] at cG;clear hB;go_enter Tryz.func143,Tryz.ntmps143;go_wp2_with fail;rw[←Hwb.out];refine cG.mono ?_;rintro e w1 ⟨rfl,hE1⟩;go_wp2_with fail;exact bodyPost_ret (v:=.tuple #[.int .i64 0,.bool false]) (by simp[results,Tryz.results143,go_sem]) rfl ⟨by rw[Hs.out.1,Hs.out.2];rfl,hE0.trans hE1⟩
 rw[hgr] at cG;have Hgr:=Lib.hid hgr;have hob:=l8 hgr;have cO:=fun W (hW:Ext wb W)=>m9 v l W (hg _ hW) Hgr;by_cases hm:ord l≤13;rotate_left
 · have hB:lgB l 13=false:=(by unfold lgB;rw[hgr];simpa using hm);have Hs:=Lib.hid (And.intro hB (b02 (P:=sidP l) hB));clear hB;go_enter Tryz.func143,Tryz.ntmps143;go_wp2_with fail;rw[←Hwb.out];refine cG.mono ?_;rintro e w1 ⟨rfl,hE1⟩;have hb1:=hb w1 hE1;go_wp2_with (refine (cO _ hE1).mono ?_;rintro e w2 ⟨rfl,hE2⟩);exact bodyPost_ret (v:=.tuple #[.int .i64 0,.bool false]) (by simp[results,Tryz.results143,go_sem]) rfl ⟨by rw[Hs.out.1,Hs.out.2];rfl,hE0.trans (hE1.trans hE2)⟩
 have hB:lgB l 13=true:=by unfold lgB;rw[hgr];simpa using hm
 have Hs:=Lib.hid (And.intro hB (bi9 (P:=sidP l) hB));have cF:=fun W (hW:Ext wb W)=>d95 v l (sidP l) Hgr W (hg W hW) (.pointer (some ⟨w.heap.size,0,none⟩)) (.pointer none) (fun W' b hW' hb'=>dx8 v l b w.heap.size W' (fun X hX=>hb X (hW.trans (hW'.trans hX))) (hg W' (hW.trans hW')));obtain⟨R,hR⟩:∃R,R=fsS (sidP l) (ord l) (ord l+1) 0 0:=⟨_,rfl⟩;rw[←hR] at cF Hs;clear hB hgr hR;go_enter Tryz.func143,Tryz.ntmps143;go_wp2_with fail;rw[←Hwb.out];refine cG.mono ?_;rintro e w1 ⟨rfl,hE1⟩;have hb1:=hb w1 hE1;go_wp2_with (go_at_call 99;refine (cO _ hE1).mono ?_;rintro e w2 ⟨rfl,hE2⟩;have hE12:=hE1.trans hE2;have hb2:=hb w2 hE12);refine (cF _ hE12).mono ?_;rintro e w3 ⟨c,rfl,hE3⟩;go_wp2_with fail;exact bodyPost_ret (v:=.tuple #[.int .i64 R,.bool true]) (by simp[results,Tryz.results143,go_sem]) rfl ⟨by rw[Hs.out.1,Hs.out.2],hE0.trans (hE12.trans hE3)⟩
end Go.Zz
