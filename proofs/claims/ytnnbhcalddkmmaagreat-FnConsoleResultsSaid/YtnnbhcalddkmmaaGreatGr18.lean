/- Orders: primes, exponents. -/
import Derived.Test.YtnnbhcalddkmmaaGreatGr17
import Derived.Test.YtnnbhcalddkmmaaGreatGr5
import Derived.Test.YtnnbhcalddkmmaaGreatGr7
import Derived.Test.YtnnbhcalddkmmaaGreatGr1
import Derived.Test.YtnnbhcalddkmmaaGreatGr10
set_option linter.unusedSimpArgs false
set_option linter.unusedVariables false
set_option linter.unnecessarySimpa false
namespace Go.Zz
open Go.RowKit Go.Proofs
set_option maxHeartbeats 400000
set_option maxRecDepth 4000
def X8(n:Nat):Bool:=decide (2≤n∧∀d,d<n→2≤d→n % d≠0)
theorem ci7{n d:Nat}(h:n % d=0)(h2:2≤d)(hd:d<n):X8 n=false :=
 decide_eq_false fun hh=>hh.2 d hd h2 h
theorem c85{n:Nat}(h:∀d,d<n→2≤d→n % d≠0):X8 n=decide (2≤n):=by
 unfold X8;by_cases hn:2≤n
 · rw[decide_eq_true hn];exact decide_eq_true ⟨hn,h⟩
 · rw[decide_eq_false hn];exact decide_eq_false fun hh=>hn hh.1
def I3(l:List Int):Nat→Nat
 | 0=>1
 | k+1=>I3 l k / Nat.gcd (I3 l k) (nth l k).toNat*(nth l k).toNat
def W1(l:List Int):Nat:=I3 l l.length
theorem du5{l:List Int}(h:c9 l=true):∀k,k≤l.length→1≤I3 l k∧I3 l k≤24 ^ k:=by
 intro k;induction k with
 | zero=>intro _;exact⟨Nat.le_refl _,Nat.le_refl _⟩
 | succ k ih =>
  intro hk;obtain⟨h1,h2⟩:=ih (by omega);have hn:=E2 h (show k<l.length by omega);have ho:2≤(nth l k).toNat∧(nth l k).toNat≤24:=by omega
  show 1≤I3 l k / Nat.gcd (I3 l k) (nth l k).toNat*(nth l k).toNat∧_;have hg0:0<Nat.gcd (I3 l k) (nth l k).toNat:=Nat.gcd_pos_of_pos_right _ (by omega);have hgl:Nat.gcd (I3 l k) (nth l k).toNat≤I3 l k:=Nat.gcd_le_left _ (by omega);have hq:0<I3 l k / Nat.gcd (I3 l k) (nth l k).toNat:=Nat.div_pos hgl hg0;have hq2:=Nat.div_le_self (I3 l k) (Nat.gcd (I3 l k) (nth l k).toNat);refine⟨Nat.mul_pos hq (by omega),?_⟩;rw[Nat.pow_succ];exact Nat.mul_le_mul (Nat.le_trans hq2 h2) ho.2
theorem b42{l:List Int}(h:c9 l=true){k:Nat}(hk:k≤l.length):1≤I3 l k∧I3 l k≤13824:=by
 obtain⟨h1,h2⟩:=du5 h k hk;have h3:=C0 h;exact⟨h1,Nat.le_trans h2 (Nat.le_trans (Nat.pow_le_pow_right (by decide) (Nat.le_trans hk h3)) (by decide))⟩
theorem do0{e o j:Nat}(he:0<e):j*e % o=0↔o / Nat.gcd e o ∣ j:=by
 have hg:0<Nat.gcd e o:=Nat.gcd_pos_of_pos_left _ he;rw[←Nat.dvd_iff_mod_eq_zero];constructor
 · intro h;have h1:Nat.Coprime (o / Nat.gcd e o) (e / Nat.gcd e o):=(Nat.coprime_div_gcd_div_gcd hg).symm;refine h1.dvd_of_dvd_mul_right ?_;refine Nat.dvd_of_mul_dvd_mul_right hg ?_;rw[Nat.div_mul_cancel (Nat.gcd_dvd_right e o),Nat.mul_assoc,Nat.div_mul_cancel (Nat.gcd_dvd_left e o)];exact h
 · rintro⟨q,rfl⟩;refine⟨q*(e / Nat.gcd e o),?_⟩;have e1:=Nat.div_mul_cancel (Nat.gcd_dvd_left e o);have e2:=Nat.div_mul_cancel (Nat.gcd_dvd_right e o);conv=>lhs;rhs;rw[←e1]
   conv=>rhs;lhs;rw[←e2]
   simp only[Nat.mul_comm,Nat.mul_left_comm]
theorem do1{e o:Nat}:o / Nat.gcd e o*e=e / Nat.gcd e o*o:=by
 have e1:=Nat.div_mul_cancel (Nat.gcd_dvd_left e o);have e2:=Nat.div_mul_cancel (Nat.gcd_dvd_right e o);conv=>lhs;rhs;rw[←e1]
 conv=>rhs;rhs;rw[←e2]
 simp only[Nat.mul_comm,Nat.mul_left_comm]
theorem bv4(v:Value)(l:List Int)(w:World)(h:c8 w v l)(Hgr:Hid (c9 l=true)) :
 Calls Tryz.prog 179 #[.agg #[v]] w fun e w'=>e=.returned (.int .i64 (ord l:Int))∧Ext w w':=by
 rw[←Z9 Hgr.out];exact Y0 v l w h
theorem c15(v:Value)(l:List Int)(w:World)(h:c8 w v l)(Hgr:Hid (c9 l=true)) :
 Calls Tryz.prog 104 #[.agg #[v]] w fun e w'=>e=.returned (.bool (X8 (ord l)))∧Ext w w':=by
 obtain⟨wb,Hwb,hE0,hb,hg,hE,Hsz⟩:=j60 28 h;clear h;have hbx:=hb wb hE;have hob:=l8 Hgr.out;go_enter Tryz.func104,Tryz.ntmps104;go_wp2_with fail;rw[←Hwb.out];go_wp2_with (first | (go_at_call 99;refine cx (m9 _ _ _ (hg _ hE) (Hgr)) hE ?_;clear hE;intro w' hE));clear hb hg hbx;obtain⟨N,hNe⟩:∃N,ord l=N:=⟨_,rfl⟩;rw[hNe] at hob ⊢;have Hne:=Lib.hid hNe;clear hNe;go_loop [4] (fun i=>∃d:Nat,2≤d∧i=.int .i64 d∧∀m,m<d→m<N→2≤m→N % m≠0) (fun i=>N - (intOf i).toNat);case atStart=>exact⟨2,by omega,rfl,fun m h1 h2 h3=>by omega⟩
 case round =>
  obtain⟨d,hd,rfl,hm⟩:=hrel;have Hm:=Lib.hid hm;clear hm;by_cases hlt:d<N
  · have hmc:=cu3 N d;have hm2:=Nat.mod_lt N (show 0<d by omega);have hne2:((d:Int) == 0)=false:=(by simp;omega);have hpos:0<(d:Int):=(by omega);have hltI:(d:Int)<(N:Int):=(by omega);by_cases h0:N % d=0
    · have h0I:((N:Int) % (d:Int) == 0)=true:=(by rw[←hmc,h0];rfl);clear hmc;go_wp2_with fail;go_ret;exact⟨l9 (by rw[Hne.out];exact (ci7 h0 hd hlt).symm),hE0.trans hE⟩
    · have h0I:((N:Int) % (d:Int) == 0)=false:=(by rw[←hmc,beq_eq_false_iff_ne];omega);clear hmc;go_wp2_with fail;go_round;case rel=>exact⟨d+1,by omega,by go_num,fun m h1 h2 h3=>by
       rcases Nat.lt_or_ge m d with q | q
       · exact Hm.out m q h2 h3
       · obtain rfl:m=d:=by omega
         exact h0⟩
      case measure=>(simp[intOf];omega)
  · have Hp:=Lib.hid (c85 fun m h1 h2=>Hm.out m (by omega) h1 h2);by_cases hn:2≤N
    · have hI:(2:Int)≤(N:Int):=(by omega);go_wp2_with fail;go_ret;exact⟨l9 (by rw[Hne.out,Hp.out];first | exact decide_eq_decide.2 (by omega) | exact (decide_eq_true hn).symm | exact (decide_eq_false hn).symm),hE0.trans hE⟩
    · have hI:¬(2:Int)≤(N:Int):=(by omega);go_wp2_with fail;go_ret;exact⟨l9 (by rw[Hne.out,Hp.out];first | exact decide_eq_decide.2 (by omega) | exact (decide_eq_true hn).symm | exact (decide_eq_false hn).symm),hE0.trans hE⟩
theorem bz2(v:Value)(l:List Int)(w:World)(h:c8 w v l)(Hgr:Hid (c9 l=true)) :
 Calls Tryz.prog 60 #[.agg #[v]] w fun e w'=>e=.returned (.bool (X8 (ord l)))∧Ext w w':=by
 obtain⟨wb,Hwb,hE0,hb,hg,hE,Hsz⟩:=j60 28 h;clear h;have hbx:=hb wb hE;have hob:=l8 Hgr.out;go_enter Tryz.func60,Tryz.ntmps60;go_wp2_with fail;rw[←Hwb.out];go_wp2_with (first | (go_at_call 179;refine cx (bv4 _ _ _ (hg _ hE) (Hgr)) hE ?_;clear hE;intro w' hE));clear hb hg hbx;obtain⟨N,hNe⟩:∃N,ord l=N:=⟨_,rfl⟩;rw[hNe] at hob ⊢;have Hne:=Lib.hid hNe;clear hNe;go_loop [4] (fun i=>∃d:Nat,2≤d∧i=.int .i64 d∧∀m,m<d→m<N→2≤m→N % m≠0) (fun i=>N - (intOf i).toNat);case atStart=>exact⟨2,by omega,rfl,fun m h1 h2 h3=>by omega⟩
 case round =>
  obtain⟨d,hd,rfl,hm⟩:=hrel;have Hm:=Lib.hid hm;clear hm;by_cases hlt:d<N
  · have hmc:=cu3 N d;have hm2:=Nat.mod_lt N (show 0<d by omega);have hne2:((d:Int) == 0)=false:=(by simp;omega);have hpos:0<(d:Int):=(by omega);have hltI:(d:Int)<(N:Int):=(by omega);by_cases h0:N % d=0
    · have h0I:((N:Int) % (d:Int) == 0)=true:=(by rw[←hmc,h0];rfl);clear hmc;go_wp2_with fail;go_ret;exact⟨l9 (by rw[Hne.out];exact (ci7 h0 hd hlt).symm),hE0.trans hE⟩
    · have h0I:((N:Int) % (d:Int) == 0)=false:=(by rw[←hmc,beq_eq_false_iff_ne];omega);clear hmc;go_wp2_with fail;go_round;case rel=>exact⟨d+1,by omega,by go_num,fun m h1 h2 h3=>by
       rcases Nat.lt_or_ge m d with q | q
       · exact Hm.out m q h2 h3
       · obtain rfl:m=d:=by omega
         exact h0⟩
      case measure=>(simp[intOf];omega)
  · have Hp:=Lib.hid (c85 fun m h1 h2=>Hm.out m (by omega) h1 h2);by_cases hn:2≤N
    · have hI:(2:Int)≤(N:Int):=(by omega);go_wp2_with fail;go_ret;exact⟨l9 (by rw[Hne.out,Hp.out];first | exact decide_eq_decide.2 (by omega) | exact (decide_eq_true hn).symm | exact (decide_eq_false hn).symm),hE0.trans hE⟩
    · have hI:¬(2:Int)≤(N:Int):=(by omega);go_wp2_with fail;go_ret;exact⟨l9 (by rw[Hne.out,Hp.out];first | exact decide_eq_decide.2 (by omega) | exact (decide_eq_true hn).symm | exact (decide_eq_false hn).symm),hE0.trans hE⟩
theorem ca4(v:Value)(l:List Int)(w:World)(h:c8 w v l)(Hgr:Hid (c9 l=true)) :
 Calls Tryz.prog 100 #[.agg #[v]] w fun e w'=>e=.returned (.int .i64 (W1 l:Nat))∧Ext w w':=by
 have hop:=h.op;have hE0:=(Ext.refl w).alloc (.cells #[v] 28);have hE:=Ext.refl (w.alloc (.cells #[v] 28));have hb:=d7 w v 28;have hg:∀W,Ext (w.alloc (.cells #[v] 28)) W→c8 W v l:=fun W hW=>h.ext (hE0.trans hW);clear h;obtain⟨ao,c,adr,rfl,hlen,hadr,hcell⟩:=hop;have hix:=j6 (c:=c) elI szI hadr;clear hadr;have hgr:=Hgr.out;have hl3:=C0 hgr;go_enter Tryz.func100,Tryz.ntmps100;go_wp2_with (first | (go_at_call 94;refine cx (l0 _ _ _ (hg _ hE)) hE ?_;clear hE;intro w' hE));clear hgr;go_loopw [3,12] (fun n i wr=>∃k:Nat,k≤l.length∧i=.int .i64 k∧n=.int .i64 (I3 l k:Nat)∧Ext (w.alloc (.cells #[.slice ao l.length c] 28)) wr) (fun _ i _=>l.length - (intOf i).toNat);case atStart=>exact⟨0,by omega,rfl,rfl,hE⟩
 case round =>
  clear hE;obtain⟨k,hk,rfl,rfl,hE⟩:=hrel;by_cases hlt:k<l.length
  · have hck:=hcell k _ hlt (hE0.trans hE);have hn:=E2 Hgr.out hlt;have Hs:Hid (I3 l (k+1)=I3 l k / Nat.gcd (I3 l k) (nth l k).toNat*(nth l k).toNat):=Lib.hid rfl;have hs2:=b42 Hgr.out (show k+1≤l.length by omega);obtain⟨he1,he2⟩:=b42 Hgr.out hk;obtain⟨o,ho⟩:∃o:Nat,nth l k=(o:Int):=⟨(nth l k).toNat,by omega⟩;rw[ho] at hck hn;have Hs':Hid (I3 l (k+1)=I3 l k / Nat.gcd (I3 l k) o*o):=Lib.hid (by rw[Hs.out,ho,Int.toNat_natCast]);rw[Hs'.out] at hs2;clear Hs ho;have hg0:0<Nat.gcd (I3 l k) o:=Nat.gcd_pos_of_pos_left _ (by omega);obtain⟨e,he⟩:∃e,I3 l k=e:=⟨_,rfl⟩;rw[he] at he1 he2 hs2 hg0 Hs' ⊢;have d1:((e / Nat.gcd e o:Nat):Int)=(e:Int) / (Nat.gcd e o:Int):=Int.natCast_ediv _ _;have D1:=Lib.hid d1;have hq:=Nat.div_le_self e (Nat.gcd e o);have hqI:0≤(e:Int) / (Nat.gcd e o:Int)∧(e:Int) / (Nat.gcd e o:Int)≤13824:=⟨by rw[←d1];exact Int.natCast_nonneg _,by rw[←d1];exact Int.ofNat_le.2 (Nat.le_trans hq he2)⟩;have hne2:((Nat.gcd e o:Int) == 0)=false:=(by simp;omega);have hpos:0<(Nat.gcd e o:Int):=(by omega);have hmm : -1000000≤(e:Int) / (Nat.gcd e o:Int)*(o:Int)∧(e:Int) / (Nat.gcd e o:Int)*(o:Int)≤1000000:=⟨by rw[←d1,←Int.natCast_mul];exact Int.le_trans (by decide) (Int.natCast_nonneg _),by rw[←d1,←Int.natCast_mul];exact Int.ofNat_le.2 (Nat.le_trans hs2.2 (by decide))⟩;have Hm:Hid ((e:Int) / (Nat.gcd e o:Int)*(o:Int)=((I3 l (k+1):Nat):Int)):=Lib.hid (by rw[Hs'.out,Int.natCast_mul,d1]);clear d1 hs2 he;go_wp2_with (go_at_call 211;refine (cb9 _ _ (by omega) (by omega) _).mono ?_;rintro e2 w2 ⟨rfl,hE2⟩);go_roundw;(case rel=>exact⟨k+1,by omega,by go_num,by rw[Hm.out],hE.trans hE2⟩);case measure=>(simp[intOf];omega)
  · have hkl:k=l.length:=(by omega);subst hkl;go_wp2_with fail;go_ret;exact⟨rfl,hE0.trans hE⟩
end Go.Zz
namespace Go.Zz
open Go.RowKit Go.Proofs
set_option maxHeartbeats 400000
set_option maxRecDepth 4000
theorem c88(v:Value)(l:List Int)(w:World)(h:c8 w v l)(Hgr:Hid (c9 l=true)) :
 Calls Tryz.prog 56 #[.agg #[v]] w fun e w'=>e=.returned (.int .i64 (W1 l:Nat))∧Ext w w':=by
 have hop:=h.op;have hE0:=(Ext.refl w).alloc (.cells #[v] 28);have hE:=Ext.refl (w.alloc (.cells #[v] 28));have hb:=d7 w v 28;have hg:∀W,Ext (w.alloc (.cells #[v] 28)) W→c8 W v l:=fun W hW=>h.ext (hE0.trans hW);clear h;obtain⟨ao,c,adr,rfl,hlen,hadr,hcell⟩:=hop;have hix:=j6 (c:=c) elI szI hadr;clear hadr;have hgr:=Hgr.out;have hl3:=C0 hgr;go_enter Tryz.func56,Tryz.ntmps56;go_wp2_with (go_at_call 42;refine (q9 _ _ _ (hg _ hE)).mono ?_;rintro e w1 ⟨rfl,hE1⟩;have hb1:=hb _ (hE.trans hE1));clear hgr;go_loop [3,4] (fun n i=>∃k:Nat,k≤l.length∧i=.int .i64 k∧n=.int .i64 (I3 l k:Nat)) (fun _ i=>l.length - (intOf i).toNat);case atStart=>exact⟨0,by omega,rfl,rfl⟩
 case round =>
  obtain⟨k,hk,rfl,rfl⟩:=hrel;by_cases hlt:k<l.length
  · have hck:=hcell k _ hlt (hE0.trans hE1);have hn:=E2 Hgr.out hlt;have Hs:Hid (I3 l (k+1)=I3 l k / Nat.gcd (I3 l k) (nth l k).toNat*(nth l k).toNat):=Lib.hid rfl;have hs2:=b42 Hgr.out (show k+1≤l.length by omega);obtain⟨he1,he2⟩:=b42 Hgr.out hk;obtain⟨o,ho⟩:∃o:Nat,nth l k=(o:Int):=⟨(nth l k).toNat,by omega⟩;rw[ho] at hck hn;have Hs':Hid (I3 l (k+1)=I3 l k / Nat.gcd (I3 l k) o*o):=Lib.hid (by rw[Hs.out,ho,Int.toNat_natCast]);rw[Hs'.out] at hs2;clear Hs ho;obtain⟨e,he⟩:∃e,I3 l k=e:=⟨_,rfl⟩;rw[he] at he1 he2 hs2 Hs' ⊢;have Hmi:Hid (∀j,j*e % o=0↔o / Nat.gcd e o ∣ j):=Lib.hid fun j=>do0 (by omega);have hJ0:0<o / Nat.gcd e o:=Nat.div_pos (Nat.gcd_le_right _ (by omega)) (Nat.gcd_pos_of_pos_left _ (by omega));have Hv:Hid (o / Nat.gcd e o*e=I3 l (k+1)):=Lib.hid (by rw[Hs'.out];exact do1);have hJe:o / Nat.gcd e o*e≤13824:=(by rw[Hv.out,Hs'.out];exact hs2.2);clear hs2 he;obtain⟨J,hJ⟩:∃J,o / Nat.gcd e o=J:=⟨_,rfl⟩;rw[hJ] at hJ0 Hv hJe Hmi;clear hJ Hs';have hne2:((o:Int) == 0)=false:=(by simp;omega);have hpos:0<(o:Int):=(by omega);go_wp2_with fail;go_loop [5] (fun x=>∃j z:Nat,1≤j∧j≤J∧z=j*e∧z≤13824∧x=.int .i64 z) (fun x=>13824 - (intOf x).toNat);(case atStart=>exact⟨1,e,by omega,by omega,by omega,by omega,rfl⟩);case round =>
     obtain⟨j,z,hj1,hj2,hz,hz2,rfl⟩:=hrel;have Hz:=Lib.hid hz;have hzc:=cu3 z o;by_cases h0:z % o=0
     · have hjJ:j=J:=by
        have:=Nat.le_of_dvd (by omega) ((Hmi.out j).1 (by rw[←hz];exact h0));omega
       have h0I:((z:Int) % (o:Int) == 0)=true:=by rw[←hzc,h0];rfl
       clear hzc hz
       go_wp2_with fail
       go_round
       case rel=>exact⟨k+1,by omega,by go_num,by rw[←Hv.out,Hz.out,hjJ]⟩
       case measure=>(simp[intOf];omega)
     · have hjJ:j≠J:=fun hh=>h0 (by rw[hz];exact (Hmi.out j).2 (by rw[hh];exact Nat.dvd_refl _));have h0I:((z:Int) % (o:Int) == 0)=false:=(by rw[←hzc,beq_eq_false_iff_ne];omega);have hz3:z+e=(j+1)*e:=(by rw[hz,Nat.succ_mul]);have hz4:(j+1)*e≤J*e:=Nat.mul_le_mul_right e (by omega);have hz5:z+e≤13824:=(by rw[hz3];exact Nat.le_trans hz4 hJe);have Hz3:=Lib.hid hz3;clear hzc hz hz3 hz4;go_wp2_with fail;go_round;(case rel=>exact⟨j+1,z+e,by omega,by omega,Hz3.out,hz5,by go_num⟩);case measure=>(simp[intOf];omega)
  · have hkl:k=l.length:=(by omega);subst hkl;go_wp2_with fail;go_ret;exact⟨rfl,hE0.trans hE1⟩
end Go.Zz
namespace Go.Zz
open Go.RowKit Go.Proofs
set_option maxHeartbeats 2000000
set_option maxRecDepth 8000
theorem dd5(M:List Nat)(i x:Nat):(d6 M).set i (x:Int)=d6 (M.set i x):=by unfold d6;rw[List.map_set]
structure Dv(w0:World)(ao:Option Addr)(n c:Nat)(M:List Nat)(W:World):Prop where
 own:Own 3 w0 W (.slice ao n c) (d6 M)
 len:M.length=n
 ext:Ext w0 W
theorem Dv.at{w0 W:World}{ao:Option Addr}{n c:Nat}{M:List Nat}(h:Dv w0 ao n c M W){i:Nat}(hi:i<n):∃g,ao=some ⟨g,0,none⟩:=by
 obtain⟨ao',c',hv,-,-,hs⟩:=h.own.shape;obtain⟨g,hg,-,-⟩:=hs i (by rw[j8,h.len];exact hi);simp only[Value.slice.injEq] at hv;exact⟨g,hv.1.trans hg⟩
theorem Dv.cell{w0 W:World}{g n c:Nat}{M:List Nat}(h:Dv w0 (some ⟨g,0,none⟩) n c M W){i:Nat}(hi:i<n):W.cell? ⟨g,i,none⟩=some (.int .i64 (d5 M i))∧W.frozen? ⟨g,i,none⟩=false∧w0.heap.size≤g:=by
 obtain⟨ao',c',hv,-,hb,hs⟩:=h.own.shape;obtain⟨g',hg,hc,hf⟩:=hs i (by rw[j8,h.len];exact hi);simp only[Value.slice.injEq] at hv;have e:=hv.1.trans hg;simp only[Option.some.injEq,Addr.mk.injEq,and_true] at e;obtain rfl:=e;obtain⟨g2,e2,h2,-⟩:=hb _ hg;simp only[Addr.mk.injEq,and_true] at e2;subst e2;exact⟨by rw[hc,b22],hf,h2⟩
theorem Dv.set{w0 W:World}{g n c:Nat}{M:List Nat}(h:Dv w0 (some ⟨g,0,none⟩) n c M W)(hg:w0.heap.size≤g)(i x:Nat):Dv w0 (some ⟨g,0,none⟩) n c (M.set i x) (W.setCell ⟨g,i,none⟩ (.int .i64 (x:Int))):=by
 obtain⟨h1,rfl,h3⟩:=h;refine⟨?_,by simp,h3.setCell hg _⟩;have e:(d6 M).length=M.length:=j8 M;have:=Own.stored (c:=c) (by rw[e];exact h1) i (x:Int);rw[e,dd5] at this;exact this
theorem Dv.ext2{w0 W V:World}{ao:Option Addr}{n c:Nat}{M:List Nat}(h:Dv w0 ao n c M W)(hV:Ext W V):Dv w0 ao n c M V:=⟨h.own.ext hV,h.len,h.ext.trans hV⟩
theorem Dv.drew{w0 W:World}{ao:Option Addr}{n c:Nat}{M:List Nat}(h:Dv w0 ao n c M W):Dv w0 ao n c M W.drew:=⟨h.own.drew,h.len,h.ext.drew⟩
theorem ba6(g n c:Nat):∀(i:Nat) W,i<n→(Instr.indexAt 26 (.slice (some ⟨g,0,none⟩) n c) (.int .i64 (i:Int))).run Tryz.prog W=.ok (.pointer (some ⟨g,i,none⟩)) W:=by
 intro i W hi;rw[run_indexAt_slice (h:=elI),if_pos (by omega),szI];simp[Result.andThen,Addr.add_lit]
theorem bq0(v:Value)(l:List Int)(w:World)(h:c8 w v l)(Hgr:Hid (c9 l=true)) :
 Calls Tryz.prog 101 #[.agg #[v]] w fun e w'=>e=.returned (.int .i64 (N8 dvS (K6 l):Nat))∧Ext w w':=by
 obtain⟨wb,Hwb,hE0,hb,hg,hE,Hsz⟩:=j60 28 h;clear h;have hbx:=hb wb hE;obtain⟨M0,hM0⟩:∃M,K6 l=M:=⟨_,rfl⟩;have Hl:Hid (l=d6 M0):=Lib.hid (by rw[←hM0];exact (ci2 Hgr.out).symm);have Hck:Hid (b56 dvS M0=true):=Lib.hid (by rw[←hM0];exact du2 Hgr.out);have hn3:M0.length≤3:=by rw[←hM0];simpa[K6] using C0 Hgr.out
 rw[hM0];clear hM0;go_enter Tryz.func101,Tryz.ntmps101;go_wp2_with fail;rw[←Hwb.out];go_wp2_with (first | (go_at_call 94;refine (l0 _ _ _ (hg _ hE)).mono ?_;rintro e w1 ⟨rfl,hE1⟩;have hb1:=hb _ (hE.trans hE1);have hg1:=hg _ (hE.trans hE1);have hgr:=Hgr.out) | (go_at_call 212;refine (b26 _ _ _ hg1).mono ?_;rintro e w2 ⟨v2,rfl,hO,hE2⟩;obtain⟨ao,c,rfl,-⟩:=hO.shape));have hlm:l.length=M0.length:=by rw[Hl.out,j8]
 have hD0:Dv w1 ao M0.length c M0 w2:=⟨by rw[←hlm,←Hl.out];exact hO,rfl,hE2⟩;rw[hlm];have hW1:=hE0.trans (hE.trans hE1);clear hO hb1 hg1 hb hg hbx hgr;go_wp2_with fail;clear hE hE1 hE2;go_loopw [18] (fun iv wr=>∃i:Nat,i≤M0.length∧iv=.int .i64 i∧Dv w1 ao M0.length c (L7 dvS M0.length M0 i) wr) (fun iv _=>M0.length - (intOf iv).toNat);case atStart=>exact⟨0,by omega,rfl,hD0⟩
 case round =>
  clear hD0;rename World=>wo;obtain⟨i,hi,rfl,hDo⟩:=hrel;by_cases hlt:i<M0.length
  · have hltI:(i:Int)<(M0.length:Int):=(by omega);have Hin:=Lib.hid (fun m (hm:m<M0.length - i)=>cr0 Hck.out hlt hm);go_wp2_with fail;go_loopw [5] (fun kv wr=>∃m k:Nat,k=i+1+m∧k≤M0.length∧kv=.int .i64 k∧Dv w1 ao M0.length c (b27 dvS i (L7 dvS M0.length M0 i) m) wr) (fun kv _=>M0.length - (intOf kv).toNat);(case atStart=>exact⟨0,i+1,rfl,by omega,by go_num,hDo⟩);case round =>
     clear hDo;rename World=>wr;obtain⟨m,k,hkm,hk,rfl,hD⟩:=hrel;have Hkm:=Lib.hid hkm;have hik:i<k:=(by omega);clear hkm;by_cases hlk:k<M0.length
     · have hlkI:(k:Int)<(M0.length:Int):=(by omega);obtain⟨hML,hMb⟩:=Hin.out m (by have:=Hkm.out;omega);have Hnx:Hid (b27 dvS i (L7 dvS M0.length M0 i) (m+1)=dvS (b27 dvS i (L7 dvS M0.length M0 i) m) i k):=Lib.hid (by rw[Hkm.out];rfl);obtain⟨M,hM⟩:∃M,M=b27 dvS i (L7 dvS M0.length M0 i) m:=⟨_,rfl⟩;rw[←hM] at hD hML hMb Hnx;clear hM;have hbi:=hMb i hlt;have hbk:=hMb k hlk;obtain⟨g,rfl⟩:=hD.at hlt;have hix:=ba6 g M0.length c;have hDd:=hD.drew;obtain⟨ci,-,hgb⟩:=hDd.cell hlt;have ck:=(hDd.cell hlk).1;replace Hnx:=Lib.hid (Hnx.out.trans (show dvS M i k=(M.set i (d5 M i / Nat.gcd (d5 M i) (d5 M k)*d5 M k)).set k (Nat.gcd (d5 M i) (d5 M k)) from rfl));obtain⟨a,ha⟩:∃a,a=d5 M i:=⟨_,rfl⟩;obtain⟨b,hb⟩:∃b,b=d5 M k:=⟨_,rfl⟩;rw[←ha] at ci hbi Hnx;rw[←hb] at ck hbk Hnx;have HA:=Lib.hid ha;have HB:=Lib.hid hb;clear ha hb;have hG0:0<Nat.gcd a b:=Nat.gcd_pos_of_pos_left _ (by omega);have hGa:Nat.gcd a b≤a:=Nat.gcd_le_left _ (by omega);clear hMb;have cG:=cb9 a b (by omega) (by omega);obtain⟨G,hG⟩:∃G,G=Nat.gcd a b:=⟨_,rfl⟩;rw[←hG] at hG0 hGa Hnx;rw[←hG] at cG;clear hG;go_wp2_with fail;refine wp_region_held_drew (S:=(fun W=>W.cell? ⟨g,i,none⟩=some (.int .i64 (a:Int))∧W.cell? ⟨g,k,none⟩=some (.int .i64 (b:Int)))) (by kernel_rfl) (by exact⟨ci,ck⟩) (fun hHeld=>?_);(refine tn 0 (v:=?_) (hy:=?_) (h:=?_));(rotate_left 1);(focus ((intro w hSw);(try dsimp only at hSw);go_simp;(try with_reducible rfl)));(try simp only[Act.put,s1,s2,s3,s4,s5,s6]);(refine tn 1 (v:=?_) (hy:=?_) (h:=?_));(rotate_left 1);(focus ((intro w hSw);(try dsimp only at hSw);go_simp;(try with_reducible rfl)));(try simp only[Act.put,s1,s2,s3,s4,s5,s6]);(refine tn 2 (v:=?_) (hy:=?_) (h:=?_));(rotate_left 1);(focus ((intro w hSw);(try dsimp only at hSw);go_simp;(try with_reducible rfl)));(try simp only[Act.put,s1,s2,s3,s4,s5,s6]);(refine tn 3 (v:=?_) (hy:=?_) (h:=?_));(rotate_left 1);(focus ((intro w hSw);(try dsimp only at hSw);go_simp;(try with_reducible rfl)));(try simp only[Act.put,s1,s2,s3,s4,s5,s6]);(refine tn 4 (v:=?_) (hy:=?_) (h:=?_));(rotate_left 1);(focus ((intro w hSw);(try dsimp only at hSw);go_simp;(try with_reducible rfl)));(try simp only[Act.put,s1,s2,s3,s4,s5,s6]);(refine tn 5 (v:=?_) (hy:=?_) (h:=?_));(rotate_left 1);(focus ((intro w hSw);(try dsimp only at hSw);go_simp;(try with_reducible rfl)));(try simp only[Act.put,s1,s2,s3,s4,s5,s6]);(refine tn 6 (v:=?_) (hy:=?_) (h:=?_));(rotate_left 1);(focus ((intro w hSw);(try dsimp only at hSw);go_simp;(try with_reducible rfl)));(try simp only[Act.put,s1,s2,s3,s4,s5,s6]);(refine tn 7 (v:=?_) (hy:=?_) (h:=?_));(rotate_left 1);(focus ((intro w hSw);(try dsimp only at hSw);go_simp;(try with_reducible rfl)));(try simp only[Act.put,s1,s2,s3,s4,s5,s6]);refine t1 8 (h:=fun K hK=>?_);go_simp;(go_at_call 211;(with_reducible refine Calls.mono (cG _) ?_);rintro e w3 ⟨rfl,hE3⟩);have hD3:=hDd.ext2 hE3;have di:=(hD3.cell hlt).1;have dk:=(hD3.cell hlk).1;rw[←HA.out] at di;rw[←HB.out] at dk;refine hK.out _ _ (by exact⟨di,dk⟩) (fun hHeld=>?_);clear hK K;(try simp only[Act.put,s1,s2,s3,s4,s5,s6]);(refine tn 9 (v:=?_) (hy:=?_) (h:=?_));(rotate_left 1);(focus ((intro w hSw);(try dsimp only at hSw);go_simp;(try with_reducible rfl)));(try simp only[Act.put,s1,s2,s3,s4,s5,s6]);refine wpAnyH_done (by kernel_rfl) ?_ _;go_wp2_with fail;have d1:(a:Int) / (G:Int)*(b:Int)=((a / G*b:Nat):Int):=(by rw[Int.natCast_mul,Int.natCast_ediv]);have hq:a / G≤24:=Nat.le_trans (Nat.div_le_self _ _) (by omega);have hq2:a / G*b≤576:=Nat.mul_le_mul hq hbk.2;have d2:((a / G:Nat):Int)=(a:Int) / (G:Int):=Int.natCast_ediv _ _;have hqI:0≤(a:Int) / (G:Int)∧(a:Int) / (G:Int)≤24:=⟨by rw[←d2];exact Int.natCast_nonneg _,by rw[←d2];exact Int.ofNat_le.2 hq⟩;have hmm:0≤(a:Int) / (G:Int)*(b:Int)∧(a:Int) / (G:Int)*(b:Int)≤576:=⟨by rw[d1];exact Int.natCast_nonneg _,by rw[d1];exact Int.ofNat_le.2 hq2⟩;have hne2:((G:Int) == 0)=false:=(by simp;omega);have hpos:0<(G:Int):=(by omega);have hD4:=hD3.drew;have hD5:Dv w1 (some ⟨g,0,none⟩) M0.length c (M.set i (a / G*b)) (w3.setCell ⟨g,i,none⟩ (.int .i64 ((a:Int) / (G:Int)*(b:Int)))):=(by rw[d1];exact hD3.set hgb i _);have hD6:=hD5.set hgb k G;rw[←Hnx.out] at hD6;have fi:=(hD4.cell hlt).2.1;have ei:=(hD4.cell hlt).1;have ek:=(hD4.cell hlk).1;have fk:=(hD3.cell hlk).2.1;have hw1:IntKind.i64.wrap ((a:Int) / (G:Int))=(a:Int) / (G:Int):=IntWalk.i64_in _ (by omega);have hw2:IntKind.i64.wrap ((a:Int) / (G:Int)*(b:Int))=(a:Int) / (G:Int)*(b:Int):=IntWalk.i64_in _ (by omega);rw[←HA.out] at ei;rw[←HB.out] at ek;clear d1 d2 hq hq2 ci ck di dk;go_wp2_with fail;refine wp_region_held_drew (S:=(fun _=>True)) (by kernel_rfl) (by trivial) (fun hHeld=>?_);(refine tn 0 (v:=?_) (hy:=?_) (h:=?_));(rotate_left 1);(focus ((intro w hSw);(try dsimp only at hSw);go_simp;(try with_reducible rfl)));(try simp only[Act.put,s1,s2,s3,s4,s5,s6]);(refine tn 1 (v:=?_) (hy:=?_) (h:=?_));(rotate_left 1);(focus ((intro w hSw);(try dsimp only at hSw);go_simp;(try with_reducible rfl)));(try simp only[Act.put,s1,s2,s3,s4,s5,s6]);(refine tn 2 (v:=?_) (hy:=?_) (h:=?_));(rotate_left 1);(focus ((intro w hSw);(try dsimp only at hSw);go_simp;(try with_reducible rfl)));(try simp only[Act.put,s1,s2,s3,s4,s5,s6]);(refine tn 3 (v:=?_) (hy:=?_) (h:=?_));(rotate_left 1);(focus ((intro w hSw);(try dsimp only at hSw);go_simp;(try with_reducible rfl)));(try simp only[Act.put,s1,s2,s3,s4,s5,s6]);(refine tn 4 (v:=?_) (hy:=?_) (h:=?_));(rotate_left 1);(focus ((intro w hSw);(try dsimp only at hSw);go_simp;(try with_reducible rfl)));(try simp only[Act.put,s1,s2,s3,s4,s5,s6]);(refine tn 5 (v:=?_) (hy:=?_) (h:=?_));(rotate_left 1);(focus ((intro w hSw);(try dsimp only at hSw);go_simp;(try with_reducible rfl)));(try simp only[Act.put,s1,s2,s3,s4,s5,s6]);(refine tn 6 (v:=?_) (hy:=?_) (h:=?_));(rotate_left 1);(focus ((intro w hSw);(try dsimp only at hSw);go_simp;(try with_reducible rfl)));(try simp only[Act.put,s1,s2,s3,s4,s5,s6]);(refine tn 8 (v:=?_) (hy:=?_) (h:=?_));(rotate_left 1);(focus ((intro w hSw);(try dsimp only at hSw);go_simp;(try with_reducible rfl)));(try simp only[Act.put,s1,s2,s3,s4,s5,s6]);(refine tn 10 (v:=?_) (hy:=?_) (h:=?_));(rotate_left 1);(focus ((intro w hSw);(try dsimp only at hSw);go_simp;(try with_reducible rfl)));(try simp only[Act.put,s1,s2,s3,s4,s5,s6]);(refine tn 11 (v:=?_) (hy:=?_) (h:=?_));(rotate_left 1);(focus ((intro w hSw);(try dsimp only at hSw);go_simp;(try with_reducible rfl)));(try simp only[Act.put,s1,s2,s3,s4,s5,s6]);(refine tn 12 (v:=?_) (hy:=?_) (h:=?_));(rotate_left 1);(focus ((intro w hSw);(try dsimp only at hSw);go_simp;(try with_reducible rfl)));(try simp only[Act.put,s1,s2,s3,s4,s5,s6]);(refine tn 15 (v:=?_) (hy:=?_) (h:=?_));(rotate_left 1);(focus ((intro w hSw);(try dsimp only at hSw);go_simp;(try with_reducible rfl)));(try simp only[Act.put,s1,s2,s3,s4,s5,s6]);refine wpAnyH_ready (rs:=[7,13]) (by kernel_rfl) (by simp) ?_;refine AllReadyH.cons (i:=7) (by rfl) (fun K hK=>?_) (AllReadyH.cons (i:=13) (by rfl) (fun K hK=>?_) (AllReadyH.nil))
       · rw[if_pos (by rfl)];go_simp;refine hK.out _ _ (by trivial) (fun hHeld=>?_);clear hK K;(try simp only[Act.put,s1,s2,s3,s4,s5,s6]);(refine tn 9 (v:=?_) (hy:=?_) (h:=?_));(rotate_left 1);(focus ((intro w hSw);(try dsimp only at hSw);go_simp;(first | done | with_reducible rfl | (rw[if_neg];(try simp only[ByteArray.size_append,ByteArray.size_mk,List.size_toArray,List.length_cons,List.length_nil]);omega) | trace_state)));(try simp only[Act.put,s1,s2,s3,s4,s5,s6]);refine t1 13 (h:=fun K hK=>?_);go_simp;refine hK.out _ _ (by trivial) (fun hHeld=>?_);clear hK K;(try simp only[Act.put,s1,s2,s3,s4,s5,s6]);(refine tn 14 (v:=?_) (hy:=?_) (h:=?_));(rotate_left 1);(focus ((intro w hSw);(try dsimp only at hSw);go_simp;(first | done | with_reducible rfl | (rw[if_neg];(try simp only[ByteArray.size_append,ByteArray.size_mk,List.size_toArray,List.length_cons,List.length_nil]);omega) | trace_state)));(try simp only[Act.put,s1,s2,s3,s4,s5,s6]);(refine tn 16 (v:=?_) (hy:=?_) (h:=?_));(rotate_left 1);(focus ((intro w hSw);(try dsimp only at hSw);go_simp;(try with_reducible rfl)));(try simp only[Act.put,s1,s2,s3,s4,s5,s6]);refine t1 17 (h:=fun K hK=>?_);go_simp;refine hK.out _ _ (by trivial) (fun hHeld=>?_);clear hK K;(try simp only[Act.put,s1,s2,s3,s4,s5,s6]);(refine tn 18 (v:=?_) (hy:=?_) (h:=?_));(rotate_left 1);(focus ((intro w hSw);(try dsimp only at hSw);go_simp;(try with_reducible rfl)));(try simp only[Act.put,s1,s2,s3,s4,s5,s6]);refine t1 19 (h:=fun K hK=>?_);go_simp;refine hK.out _ _ (by trivial) (fun hHeld=>?_);clear hK K;(try simp only[Act.put,s1,s2,s3,s4,s5,s6]);refine wpAnyH_done (by kernel_rfl) ?_ _;go_wp2_with fail;go_roundw;(case rel=>exact⟨m+1,k+1,by have:=Hkm.out;omega,by omega,by go_num,hD6.drew⟩);case measure=>(simp[intOf];omega)
       · rw[if_pos (by rfl)];go_simp;refine hK.out _ _ (by trivial) (fun hHeld=>?_);clear hK K;(try simp only[Act.put,s1,s2,s3,s4,s5,s6]);refine t1 7 (h:=fun K hK=>?_);go_simp;refine hK.out _ _ (by trivial) (fun hHeld=>?_);clear hK K;(try simp only[Act.put,s1,s2,s3,s4,s5,s6]);(refine tn 9 (v:=?_) (hy:=?_) (h:=?_));(rotate_left 1);(focus ((intro w hSw);(try dsimp only at hSw);go_simp;(first | done | with_reducible rfl | (rw[if_neg];(try simp only[ByteArray.size_append,ByteArray.size_mk,List.size_toArray,List.length_cons,List.length_nil]);omega) | trace_state)));(try simp only[Act.put,s1,s2,s3,s4,s5,s6]);(refine tn 14 (v:=?_) (hy:=?_) (h:=?_));(rotate_left 1);(focus ((intro w hSw);(try dsimp only at hSw);go_simp;(first | done | with_reducible rfl | (rw[if_neg];(try simp only[ByteArray.size_append,ByteArray.size_mk,List.size_toArray,List.length_cons,List.length_nil]);omega) | trace_state)));(try simp only[Act.put,s1,s2,s3,s4,s5,s6]);(refine tn 16 (v:=?_) (hy:=?_) (h:=?_));(rotate_left 1);(focus ((intro w hSw);(try dsimp only at hSw);go_simp;(try with_reducible rfl)));(try simp only[Act.put,s1,s2,s3,s4,s5,s6]);refine t1 17 (h:=fun K hK=>?_);go_simp;refine hK.out _ _ (by trivial) (fun hHeld=>?_);clear hK K;(try simp only[Act.put,s1,s2,s3,s4,s5,s6]);(refine tn 18 (v:=?_) (hy:=?_) (h:=?_));(rotate_left 1);(focus ((intro w hSw);(try dsimp only at hSw);go_simp;(try with_reducible rfl)));(try simp only[Act.put,s1,s2,s3,s4,s5,s6]);refine t1 19 (h:=fun K hK=>?_);go_simp;refine hK.out _ _ (by trivial) (fun hHeld=>?_);clear hK K;(try simp only[Act.put,s1,s2,s3,s4,s5,s6]);refine wpAnyH_done (by kernel_rfl) ?_ _;go_wp2_with fail;go_roundw;(case rel=>exact⟨m+1,k+1,by have:=Hkm.out;omega,by omega,by go_num,hD6.drew⟩);case measure=>(simp[intOf];omega)
     · have hlkI:¬(k:Int)<(M0.length:Int):=(by omega);have Hm:Hid (m=M0.length - (i+1)):=Lib.hid (by have:=Hkm.out;omega);rw[Hm.out] at hD;go_wp2_with fail;go_roundw;(case rel=>exact⟨i+1,by omega,by go_num,hD⟩);case measure=>(simp[intOf];omega)
  · have hin:i=M0.length:=(by omega);have hltI:¬(i:Int)<(M0.length:Int):=(by omega);rw[hin] at hDo hltI ⊢;clear hin hi;obtain⟨hML,hMb⟩:=br6 Hck.out;obtain⟨M,hM⟩:∃M,M=L7 dvS M0.length M0 M0.length:=⟨_,rfl⟩;have Hend:Hid (N8 dvS M0=T5 M M0.length):=Lib.hid (by rw[hM];rfl);rw[←hM] at hDo hML hMb;clear hM;have Hsum:=Lib.hid (bl6 M (by rw[hML];exact hMb));have Hb:=Lib.hid hMb;clear hMb;go_wp2_with fail;go_loop [7,59] (fun sv jv=>∃j:Nat,j≤M0.length∧jv=.int .i64 j∧sv=.int .i64 (T5 M j:Nat)) (fun _ jv=>M0.length - (intOf jv).toNat);(case atStart=>exact⟨0,by omega,rfl,rfl⟩);case round =>
     obtain⟨j,hj,rfl,rfl⟩:=hrel;by_cases hlj:j<M0.length
     · have hljI:(j:Int)<(M0.length:Int):=(by omega);obtain⟨g,rfl⟩:=hDo.at hlj;have hix:=ba6 g M0.length c;have cj:=(hDo.cell hlj).1;have hs:=Hsum.out j (by omega);have hbj:=Hb.out j hlj;have Hn:Hid (T5 M (j+1)=T5 M j+d5 M j - 1):=Lib.hid rfl;obtain⟨S,hS⟩:∃S,S=T5 M j:=⟨_,rfl⟩;obtain⟨a,ha⟩:∃a,a=d5 M j:=⟨_,rfl⟩;rw[←hS] at hs Hn ⊢;rw[←ha] at cj hbj Hn;clear hS ha;go_wp2_with fail;go_round;(case rel=>exact⟨j+1,by omega,by go_num,by rw[Hn.out];go_num⟩);case measure=>(simp[intOf];omega)
     · have hjn:j=M0.length:=(by omega);have hljI:¬(j:Int)<(M0.length:Int):=(by omega);rw[hjn] at hljI ⊢;clear hjn hj hlj;go_wp2_with fail;go_ret;exact⟨m8 (by rw[Hend.out]),hW1.trans hDo.ext⟩
end Go.Zz
namespace Go.Zz
open Go.RowKit Go.Proofs
set_option maxHeartbeats 2000000
set_option maxRecDepth 8000
theorem bp5(v:Value)(l:List Int)(w:World)(h:c8 w v l)(Hgr:Hid (c9 l=true)) :
 Calls Tryz.prog 57 #[.agg #[v]] w fun e w'=>e=.returned (.int .i64 (N8 dvT (K6 l):Nat))∧Ext w w':=by
 obtain⟨wb,Hwb,hE0,hb,hg,hE,Hsz⟩:=j60 28 h;clear h;have hbx:=hb wb hE;obtain⟨M0,hM0⟩:∃M,K6 l=M:=⟨_,rfl⟩;have Hl:Hid (l=d6 M0):=Lib.hid (by rw[←hM0];exact (ci2 Hgr.out).symm);have Hck:Hid (b56 dvT M0=true):=Lib.hid (by rw[←hM0];exact d48 Hgr.out);have hn3:M0.length≤3:=by rw[←hM0];simpa[K6] using C0 Hgr.out
 rw[hM0];clear hM0;go_enter Tryz.func57,Tryz.ntmps57;go_wp2_with fail;rw[←Hwb.out];go_wp2_with (first | (go_at_call 42;refine (q9 _ _ _ (hg _ hE)).mono ?_;rintro e w1 ⟨rfl,hE1⟩;have hb1:=hb _ ((hE.trans hE1).alloc (.cells #[] 3));have hg1:=hg _ (hE.trans hE1);have hgr:=Hgr.out;have hll:=C0 hgr;have hO0:=q5 (TI:=3) (n:=0) (by omega) (Ext.refl w1) [] rfl;have hEa:=(Ext.refl w1).alloc (.cells #[] 3);have hIa:=hg1.ext hEa) | (at_builtin;refine b85 slI rfl _ _ rfl w1 _ _ _ _ _ hO0 hIa hEa (by simp only[List.length_nil];omega) rfl rfl ?_;intro v2 w2 hO hE2;simp only[List.nil_append] at hO;obtain⟨ao,c,rfl,-⟩:=hO.shape));have hlm:l.length=M0.length:=by rw[Hl.out,j8]
 have hD0:Dv w1 ao M0.length c M0 w2:=⟨by rw[←hlm,←Hl.out];exact hO,rfl,hE2⟩;rw[hlm];have hW1:=hE0.trans (hE.trans hE1);clear hO hb1 hg1 hb hg hbx hgr;go_wp2_with fail;clear hE hE1 hE2;go_loopw [4] (fun iv wr=>∃i:Nat,i≤M0.length∧iv=.int .i64 i∧Dv w1 ao M0.length c (L7 dvT M0.length M0 i) wr) (fun iv _=>M0.length - (intOf iv).toNat);case atStart=>exact⟨0,by omega,rfl,hD0⟩
 case round =>
  clear hD0;rename World=>wo;obtain⟨i,hi,rfl,hDo⟩:=hrel;by_cases hlt:i<M0.length
  · have hltI:(i:Int)<(M0.length:Int):=(by omega);have Hin:=Lib.hid (fun m (hm:m<M0.length - i)=>cr0 Hck.out hlt hm);go_wp2_with fail;go_loopw [5] (fun kv wr=>∃m k:Nat,k=i+1+m∧k≤M0.length∧kv=.int .i64 k∧Dv w1 ao M0.length c (b27 dvT i (L7 dvT M0.length M0 i) m) wr) (fun kv _=>M0.length - (intOf kv).toNat);(case atStart=>exact⟨0,i+1,rfl,by omega,by go_num,hDo⟩);case round =>
     clear hDo;rename World=>wr;obtain⟨m,k,hkm,hk,rfl,hD⟩:=hrel;have Hkm:=Lib.hid hkm;have hik:i<k:=(by omega);clear hkm;by_cases hlk:k<M0.length
     · have hlkI:(k:Int)<(M0.length:Int):=(by omega);obtain⟨hML,hMb⟩:=Hin.out m (by have:=Hkm.out;omega);have Hnx:Hid (b27 dvT i (L7 dvT M0.length M0 i) (m+1)=dvT (b27 dvT i (L7 dvT M0.length M0 i) m) i k):=Lib.hid (by rw[Hkm.out];rfl);obtain⟨M,hM⟩:∃M,M=b27 dvT i (L7 dvT M0.length M0 i) m:=⟨_,rfl⟩;rw[←hM] at hD hML hMb Hnx;clear hM;have hbi:=hMb i hlt;have hbk:=hMb k hlk;obtain⟨g,rfl⟩:=hD.at hlt;have hix:=ba6 g M0.length c;have hDd:=hD.drew;obtain⟨ci,-,hgb⟩:=hDd.cell hlt;have ck:=(hDd.cell hlk).1;replace Hnx:=Lib.hid (Hnx.out.trans (show dvT M i k=(M.set i (Nat.gcd (d5 M i) (d5 M k))).set k (d5 M i / Nat.gcd (d5 M i) (d5 M k)*d5 M k) from rfl));obtain⟨a,ha⟩:∃a,a=d5 M i:=⟨_,rfl⟩;obtain⟨b,hb⟩:∃b,b=d5 M k:=⟨_,rfl⟩;rw[←ha] at ci hbi Hnx;rw[←hb] at ck hbk Hnx;have HA:=Lib.hid ha;have HB:=Lib.hid hb;clear ha hb;have hG0:0<Nat.gcd a b:=Nat.gcd_pos_of_pos_left _ (by omega);have hGa:Nat.gcd a b≤a:=Nat.gcd_le_left _ (by omega);clear hMb;have cG:=bi8 a b (by omega) (by omega);obtain⟨G,hG⟩:∃G,G=Nat.gcd a b:=⟨_,rfl⟩;rw[←hG] at hG0 hGa Hnx;rw[←hG] at cG;clear hG;go_wp2_with fail;refine wp_region_held_drew (S:=(fun W=>W.cell? ⟨g,i,none⟩=some (.int .i64 (a:Int))∧W.cell? ⟨g,k,none⟩=some (.int .i64 (b:Int)))) (by kernel_rfl) (by exact⟨ci,ck⟩) (fun hHeld=>?_);(refine tn 0 (v:=?_) (hy:=?_) (h:=?_));(rotate_left 1);(focus ((intro w hSw);(try dsimp only at hSw);go_simp;(try with_reducible rfl)));(try simp only[Act.put,s1,s2,s3,s4,s5,s6]);(refine tn 1 (v:=?_) (hy:=?_) (h:=?_));(rotate_left 1);(focus ((intro w hSw);(try dsimp only at hSw);go_simp;(try with_reducible rfl)));(try simp only[Act.put,s1,s2,s3,s4,s5,s6]);(refine tn 2 (v:=?_) (hy:=?_) (h:=?_));(rotate_left 1);(focus ((intro w hSw);(try dsimp only at hSw);go_simp;(try with_reducible rfl)));(try simp only[Act.put,s1,s2,s3,s4,s5,s6]);(refine tn 3 (v:=?_) (hy:=?_) (h:=?_));(rotate_left 1);(focus ((intro w hSw);(try dsimp only at hSw);go_simp;(try with_reducible rfl)));(try simp only[Act.put,s1,s2,s3,s4,s5,s6]);(refine tn 4 (v:=?_) (hy:=?_) (h:=?_));(rotate_left 1);(focus ((intro w hSw);(try dsimp only at hSw);go_simp;(try with_reducible rfl)));(try simp only[Act.put,s1,s2,s3,s4,s5,s6]);(refine tn 5 (v:=?_) (hy:=?_) (h:=?_));(rotate_left 1);(focus ((intro w hSw);(try dsimp only at hSw);go_simp;(try with_reducible rfl)));(try simp only[Act.put,s1,s2,s3,s4,s5,s6]);(refine tn 6 (v:=?_) (hy:=?_) (h:=?_));(rotate_left 1);(focus ((intro w hSw);(try dsimp only at hSw);go_simp;(try with_reducible rfl)));(try simp only[Act.put,s1,s2,s3,s4,s5,s6]);(refine tn 7 (v:=?_) (hy:=?_) (h:=?_));(rotate_left 1);(focus ((intro w hSw);(try dsimp only at hSw);go_simp;(try with_reducible rfl)));(try simp only[Act.put,s1,s2,s3,s4,s5,s6]);refine t1 8 (h:=fun K hK=>?_);go_simp;(go_at_call 177;(with_reducible refine Calls.mono (cG _) ?_);rintro e w3 ⟨rfl,hE3⟩);have hD3:=hDd.ext2 hE3;have di:=(hD3.cell hlt).1;have dk:=(hD3.cell hlk).1;rw[←HA.out] at di;rw[←HB.out] at dk;refine hK.out _ _ (by exact⟨di,dk⟩) (fun hHeld=>?_);clear hK K;(try simp only[Act.put,s1,s2,s3,s4,s5,s6]);(refine tn 9 (v:=?_) (hy:=?_) (h:=?_));(rotate_left 1);(focus ((intro w hSw);(try dsimp only at hSw);go_simp;(try with_reducible rfl)));(try simp only[Act.put,s1,s2,s3,s4,s5,s6]);refine wpAnyH_done (by kernel_rfl) ?_ _;go_wp2_with fail;have d1:(a:Int) / (G:Int)*(b:Int)=((a / G*b:Nat):Int):=(by rw[Int.natCast_mul,Int.natCast_ediv]);have hq:a / G≤24:=Nat.le_trans (Nat.div_le_self _ _) (by omega);have hq2:a / G*b≤576:=Nat.mul_le_mul hq hbk.2;have d2:((a / G:Nat):Int)=(a:Int) / (G:Int):=Int.natCast_ediv _ _;have hqI:0≤(a:Int) / (G:Int)∧(a:Int) / (G:Int)≤24:=⟨by rw[←d2];exact Int.natCast_nonneg _,by rw[←d2];exact Int.ofNat_le.2 hq⟩;have hmm:0≤(a:Int) / (G:Int)*(b:Int)∧(a:Int) / (G:Int)*(b:Int)≤576:=⟨by rw[d1];exact Int.natCast_nonneg _,by rw[d1];exact Int.ofNat_le.2 hq2⟩;have hne2:((G:Int) == 0)=false:=(by simp;omega);have hpos:0<(G:Int):=(by omega);have hD5:=hD3.set hgb i G;have hD6:Dv w1 (some ⟨g,0,none⟩) M0.length c ((M.set i G).set k (a / G*b)) ((w3.setCell ⟨g,i,none⟩ (.int .i64 (G:Int))).setCell ⟨g,k,none⟩ (.int .i64 ((a:Int) / (G:Int)*(b:Int)))):=(by rw[d1];exact hD5.set hgb k _);rw[←Hnx.out] at hD6;have fi:=(hD3.cell hlt).2.1;have fk:=(hD3.cell hlk).2.1;have ei:=(hD3.drew.cell hlt).1;have ek:=(hD3.drew.cell hlk).1;rw[←HA.out] at ei;rw[←HB.out] at ek;have hw1:IntKind.i64.wrap ((a:Int) / (G:Int))=(a:Int) / (G:Int):=IntWalk.i64_in _ (by omega);have hw2:IntKind.i64.wrap ((a:Int) / (G:Int)*(b:Int))=(a:Int) / (G:Int)*(b:Int):=IntWalk.i64_in _ (by omega);clear d1 d2 hq hq2 ci ck;go_wp2_with fail;refine wp_region_held_drew (S:=(fun W=>W.cell? ⟨g,i,none⟩=some (.int .i64 (a:Int))∧W.cell? ⟨g,k,none⟩=some (.int .i64 (b:Int)))) (by kernel_rfl) (by exact⟨ei,ek⟩) (fun hHeld=>?_);(refine tn 0 (v:=?_) (hy:=?_) (h:=?_));(rotate_left 1);(focus ((intro w hSw);(try dsimp only at hSw);go_simp;(try with_reducible rfl)));(try simp only[Act.put,s1,s2,s3,s4,s5,s6]);(refine tn 1 (v:=?_) (hy:=?_) (h:=?_));(rotate_left 1);(focus ((intro w hSw);(try dsimp only at hSw);go_simp;(try with_reducible rfl)));(try simp only[Act.put,s1,s2,s3,s4,s5,s6]);(refine tn 2 (v:=?_) (hy:=?_) (h:=?_));(rotate_left 1);(focus ((intro w hSw);(try dsimp only at hSw);go_simp;(try with_reducible rfl)));(try simp only[Act.put,s1,s2,s3,s4,s5,s6]);(refine tn 3 (v:=?_) (hy:=?_) (h:=?_));(rotate_left 1);(focus ((intro w hSw);(try dsimp only at hSw);go_simp;(try with_reducible rfl)));(try simp only[Act.put,s1,s2,s3,s4,s5,s6]);(refine tn 4 (v:=?_) (hy:=?_) (h:=?_));(rotate_left 1);(focus ((intro w hSw);(try dsimp only at hSw);go_simp;(try with_reducible rfl)));(try simp only[Act.put,s1,s2,s3,s4,s5,s6]);(refine tn 5 (v:=?_) (hy:=?_) (h:=?_));(rotate_left 1);(focus ((intro w hSw);(try dsimp only at hSw);go_simp;(first | done | with_reducible rfl | (rw[if_neg];(try simp only[ByteArray.size_append,ByteArray.size_mk,List.size_toArray,List.length_cons,List.length_nil]);omega) | trace_state)));(try simp only[Act.put,s1,s2,s3,s4,s5,s6]);(refine tn 6 (v:=?_) (hy:=?_) (h:=?_));(rotate_left 1);(focus ((intro w hSw);(try dsimp only at hSw);go_simp;(try with_reducible rfl)));(try simp only[Act.put,s1,s2,s3,s4,s5,s6]);(refine tn 7 (v:=?_) (hy:=?_) (h:=?_));(rotate_left 1);(focus ((intro w hSw);(try dsimp only at hSw);go_simp;(try with_reducible rfl)));(try simp only[Act.put,s1,s2,s3,s4,s5,s6]);(refine tn 8 (v:=?_) (hy:=?_) (h:=?_));(rotate_left 1);(focus ((intro w hSw);(try dsimp only at hSw);go_simp;(try with_reducible rfl)));(try simp only[Act.put,s1,s2,s3,s4,s5,s6]);(refine tn 9 (v:=?_) (hy:=?_) (h:=?_));(rotate_left 1);(focus ((intro w hSw);(try dsimp only at hSw);go_simp;(try with_reducible rfl)));(try simp only[Act.put,s1,s2,s3,s4,s5,s6]);(refine tn 10 (v:=?_) (hy:=?_) (h:=?_));(rotate_left 1);(focus ((intro w hSw);(try dsimp only at hSw);go_simp;(first | done | with_reducible rfl | (rw[if_neg];(try simp only[ByteArray.size_append,ByteArray.size_mk,List.size_toArray,List.length_cons,List.length_nil]);omega) | trace_state)));(try simp only[Act.put,s1,s2,s3,s4,s5,s6]);(refine tn 11 (v:=?_) (hy:=?_) (h:=?_));(rotate_left 1);(focus ((intro w hSw);(try dsimp only at hSw);go_simp;(try with_reducible rfl)));(try simp only[Act.put,s1,s2,s3,s4,s5,s6]);refine wpAnyH_done (by kernel_rfl) ?_ _;go_wp2_with fail;go_roundw;(case rel=>exact⟨m+1,k+1,by have:=Hkm.out;omega,by omega,by go_num,hD6.drew⟩);case measure=>(simp[intOf];omega)
     · have hlkI:¬(k:Int)<(M0.length:Int):=(by omega);have Hm:Hid (m=M0.length - (i+1)):=Lib.hid (by have:=Hkm.out;omega);rw[Hm.out] at hD;go_wp2_with fail;go_roundw;(case rel=>exact⟨i+1,by omega,by go_num,hD⟩);case measure=>(simp[intOf];omega)
  · have hin:i=M0.length:=(by omega);have hltI:¬(i:Int)<(M0.length:Int):=(by omega);rw[hin] at hDo hltI ⊢;clear hin hi;obtain⟨hML,hMb⟩:=br6 Hck.out;obtain⟨M,hM⟩:∃M,M=L7 dvT M0.length M0 M0.length:=⟨_,rfl⟩;have Hend:Hid (N8 dvT M0=T5 M M0.length):=Lib.hid (by rw[hM];rfl);rw[←hM] at hDo hML hMb;clear hM;have Hsum:=Lib.hid (bl6 M (by rw[hML];exact hMb));have Hb:=Lib.hid hMb;clear hMb;go_wp2_with fail;go_loop [8,9] (fun sv jv=>∃j:Nat,j≤M0.length∧jv=.int .i64 j∧sv=.int .i64 (T5 M j:Nat)) (fun _ jv=>M0.length - (intOf jv).toNat);(case atStart=>exact⟨0,by omega,rfl,rfl⟩);case round =>
     obtain⟨j,hj,rfl,rfl⟩:=hrel;by_cases hlj:j<M0.length
     · have hljI:(j:Int)<(M0.length:Int):=(by omega);obtain⟨g,rfl⟩:=hDo.at hlj;have hix:=ba6 g M0.length c;have cj:=(hDo.cell hlj).1;have hs:=Hsum.out j (by omega);have hbj:=Hb.out j hlj;have Hn:Hid (T5 M (j+1)=T5 M j+d5 M j - 1):=Lib.hid rfl;obtain⟨S,hS⟩:∃S,S=T5 M j:=⟨_,rfl⟩;obtain⟨a,ha⟩:∃a,a=d5 M j:=⟨_,rfl⟩;rw[←hS] at hs Hn ⊢;rw[←ha] at cj hbj Hn;clear hS ha;go_wp2_with fail;go_round;(case rel=>exact⟨j+1,by omega,by go_num,by rw[Hn.out];go_num⟩);case measure=>(simp[intOf];omega)
     · have hjn:j=M0.length:=(by omega);have hljI:¬(j:Int)<(M0.length:Int):=(by omega);rw[hjn] at hljI ⊢;clear hjn hj hlj;go_wp2_with fail;go_ret;exact⟨m8 (by rw[Hend.out]),hW1.trans hDo.ext⟩
end Go.Zz
namespace Go.Zz
def J4(f:Nat→Nat)(P:List Nat)(k:Nat):List Nat:=(List.range k).foldl (fun L j=>L1 L (f j)) P
theorem d98(f:Nat→Nat)(P:List Nat):J4 f P 0=P:=rfl
theorem Y4(f:Nat→Nat)(P:List Nat)(k:Nat):J4 f P (k+1)=L1 (J4 f P k) (f k):=by unfold J4;rw[List.range_succ,List.foldl_append];rfl
theorem W8(f:Nat→Nat)(P:List Nat):∀k,(J4 f P k).length≤P.length+k
 | 0=>Nat.le_refl _
 | k+1=>by rw[Y4];have:=W8 f P k;have:=cw3 (J4 f P k) (f k);omega
theorem O6{f:Nat→Nat}{P:List Nat}{x:Nat}:∀{k},x∈J4 f P k↔x∈P∨∃j,j<k∧x=f j
 | 0=>by simp[d98]
 | k+1=>by
  rw[Y4,cu2,O6]
  constructor
  · rintro (h | h | ⟨j,hj,e⟩)
    · exact Or.inr ⟨k,by omega,h⟩
    · exact Or.inl h
    · exact Or.inr ⟨j,by omega,e⟩
  · rintro (h | ⟨j,hj,e⟩)
    · exact Or.inr (Or.inl h)
    · by_cases hjk:j=k
      · subst hjk;exact Or.inl e
      · exact Or.inr (Or.inr ⟨j,by omega,e⟩)
def b68(l:List Int)(k:Nat):List Nat:=J4 (fun x=>genF l (2 ^ x)) [] k
def O7(l:List Int)(C:List Nat):Nat→List Nat
 | 0=>[]
 | k+1=>J4 (fun j=>j3 l (d5 C k) (d5 C j)) (O7 l C k) (k+1)
theorem bu2(l:List Int)(C:List Nat):∀k,(O7 l C k).length≤k*k
 | 0=>Nat.le_refl _
 | k+1=>by
  have h1:=bu2 l C k
  have h2:=W8 (fun j=>j3 l (d5 C k) (d5 C j)) (O7 l C k) (k+1)
  show (J4 _ _ _).length≤_
  have e:(k+1)*(k+1)=k*k+k+k+1:=by rw[Nat.add_mul,Nat.mul_add];omega
  omega
def O9(l:List Int)(T C:List Nat):Nat→List Nat
 | 0=>T
 | k+1=>J4 (fun j=>j3 l (d5 T k) (d5 C j)) (O9 l T C k) C.length
theorem bw5(l:List Int)(T C:List Nat):∀k,(O9 l T C k).length≤T.length+k*C.length
 | 0=>by simp[O9]
 | k+1=>by
  have h1:=bw5 l T C k
  have h2:=W8 (fun j=>j3 l (d5 T k) (d5 C j)) (O9 l T C k) C.length
  show (J4 _ _ _).length≤_
  rw[Nat.add_mul]
  omega
def Q3(l:List Int):List Nat:=b68 l (ord l)
def b14(l:List Int):List Nat:=O7 l (Q3 l) (Q3 l).length
def sgL(l:List Int):List Nat:=O9 l (b14 l) (Q3 l) (b14 l).length
theorem c24{l:List Int}(hg:c9 l=true):(Q3 l).length≤24:=by
 have:=W8 (fun x=>genF l (2 ^ x)) [] (ord l);have:=l8 hg;simp only[List.length_nil] at *;show (J4 _ _ _).length≤_;omega
theorem cz9{l:List Int}(hg:c9 l=true):(b14 l).length≤576:=by
 have h1:=bu2 l (Q3 l) (Q3 l).length;have h2:=c24 hg;exact Nat.le_trans h1 (Nat.mul_le_mul h2 h2)
theorem by3{l:List Int}(hg:c9 l=true):(sgL l).length≤14400:=by
 have h1:=bw5 l (b14 l) (Q3 l) (b14 l).length;have h2:=c24 hg;have h3:=cz9 hg;have h4:(b14 l).length*(Q3 l).length≤576*24:=Nat.mul_le_mul h3 h2;show (O9 _ _ _ _).length≤_;omega
theorem j00{l:List Int}(hg:c9 l=true){k x:Nat}(h:x∈b68 l k):x<2 ^ ord l:=by
 rcases O6.1 h with h | ⟨j,_,rfl⟩
 · cases h
 · exact Y6 hg _
theorem cv5{l:List Int}(hg:c9 l=true){C:List Nat}:∀{k x},x∈O7 l C k→x<2 ^ ord l
 | 0,x,h=>by cases h
 | k+1,x,h=>by
  rcases O6.1 h with h | ⟨j,_,rfl⟩
  · exact cv5 hg h
  · exact b55 (m0 hg) _ _
theorem dy7{l:List Int}(hg:c9 l=true):∀x∈b14 l,x<2 ^ ord l:=fun _ h=>cv5 hg h
theorem d62{l:List Int}(hg:c9 l=true){L:List Nat}(h:∀x∈L,x<2 ^ ord l)(k:Nat):d5 L k<2 ^ ord l:=by
 by_cases hk:k<L.length
 · exact h _ (o6 hk)
 · have:d5 L k=0:=(by simp[d5,List.getD,hk]);rw[this];exact Nat.two_pow_pos _
end Go.Zz
