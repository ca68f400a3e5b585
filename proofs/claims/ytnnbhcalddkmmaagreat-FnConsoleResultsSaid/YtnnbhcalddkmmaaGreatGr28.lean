/- Boxes. -/
import Derived.Test.YtnnbhcalddkmmaaGreatGr25
import Derived.Test.YtnnbhcalddkmmaaGreatGr5
set_option linter.unusedSimpArgs false
set_option linter.unusedVariables false
set_option linter.unnecessarySimpa false
namespace Go.Zz
open Go.RowKit Go.Proofs
set_option maxHeartbeats 4000000
set_option maxRecDepth 20000
theorem bb9(v:Value)(l:List Int)(d n:Nat)(w:World)(h:c8 w v l)(Hgr:Hid (c9 l=true))(hd:d<24)(hn:n≤24) :
 Calls Tryz.prog 348 #[.agg #[v],.int .i64 0,.int .i64 d,.int .i64 n] w fun e w'=>e=.returned (.int .i64 (G8 l 0 d n:Nat))∧Ext w w':=b34 v l 0 d n w h Hgr (by omega) hd hn
theorem b38(v:Value)(l:List Int)(d n:Nat)(w:World)(h:c8 w v l)(Hgr:Hid (c9 l=true))(hd:d<24)(hn:n≤24) :
 Calls Tryz.prog 333 #[.agg #[v],.int .i64 0,.int .i64 d,.int .i64 n] w fun e w'=>e=.returned (.int .i64 (G8 l 0 d n:Nat))∧Ext w w':=X5 v l 0 d n w h Hgr (by omega) hd hn
def dz0(b:Bool)(w:World)(e:Ending)(w':World):Prop:=∃p q,e=.returned (.tuple #[p,q,.bool b])∧Ext w w'
theorem d70{a m:Nat}(ha:a≤24):wrap64 ((a:Int) / (m:Int))=((a / m:Nat):Int):=by
 rw[←Int.natCast_ediv];exact bf4 _ (by have:=Nat.div_le_self a m;omega)
theorem d02(v:Value)(l:List Int)(a:Int)(w:World)(h:c8 w v l) :
 Calls Tryz.prog 304 #[.agg #[v],.int .i64 a] w (dz0 (V7 l a) w):=by
 obtain⟨wb,Hwb,hE0,hb,hg,hE,Hsz⟩:=j60 28 h;clear h;have hbx:=hb wb hE;cases hs:d8 l a
 · have Hs:=Lib.hid (bw7 (I5 hs));go_enter Tryz.func304,Tryz.ntmps304;go_wp2_with fail;rw[←Hwb.out];refine (N7 _ _ _ (hg _ hE)).mono ?_;rintro e w1 ⟨rfl,hE1⟩;have hbx1:=hb _ hE1;go_wp2_with fail;refine (o7 _ _ _ _ (hg _ hE1) hs).mono ?_;rintro e wZ ⟨rfl,hE2⟩;have hEZ:=hE0.trans (hE1.trans hE2);go_wp2_with fail;exact bodyPost_ret (v:=.tuple #[.slice (some ⟨wZ.heap.size,0,none⟩) 0 0,.slice (some ⟨wZ.heap.size+1,0,none⟩) 0 0,.bool false]) (by simp[results,Tryz.results304,go_sem]) rfl ⟨_,_,by rw[Hs.out],(hEZ.alloc _).alloc _⟩
 · obtain⟨n,rfl,h1,h2,hgr⟩:=m3 hs;by_cases h0:n=0
   · subst h0;have Hs:Hid (V7 l ((0:Nat):Int)=false):=Lib.hid (bw7 (F4 l));go_enter Tryz.func304,Tryz.ntmps304;go_wp2_with fail;rw[←Hwb.out];refine (N7 _ _ _ (hg _ hE)).mono ?_;rintro e w1 ⟨rfl,hE1⟩;have hbx1:=hb _ hE1;go_wp2_with fail;refine (o7 _ _ _ _ (hg _ hE1) hs).mono ?_;rintro e wZ ⟨rfl,hE2⟩;have hEZ:=hE0.trans (hE1.trans hE2);go_wp2_with fail;exact bodyPost_ret (v:=.tuple #[.slice (some ⟨wZ.heap.size,0,none⟩) 0 0,.slice (some ⟨wZ.heap.size+1,0,none⟩) 0 0,.bool false]) (by simp[results,Tryz.results304,go_sem]) rfl ⟨_,_,by rw[Hs.out],(hEZ.alloc _).alloc _⟩
   · have Hs:=Lib.hid (co9 (J5 hs (by omega)));have h0':((n:Int) == 0)=false:=(by simp;omega);have Hgr:=Lib.hid hgr;have hob:=l8 hgr;have hcn:=p7 n;clear hgr h0 h1;go_enter Tryz.func304,Tryz.ntmps304;go_wp2_with fail;rw[←Hwb.out];refine (m9 _ _ _ (hg _ hE) Hgr).mono ?_;rintro e w1 ⟨rfl,hE1⟩;have hbx1:=hb _ hE1;go_wp2_with fail;refine (o7 _ _ _ _ (hg _ hE1) hs).mono ?_;rintro e w2 ⟨rfl,hE2⟩;go_wp2_with (first | (go_at_call 107;refine (E0 _ (h2) _).mono ?_;rintro e w' ⟨rfl,rfl⟩));have eW:=hE0.trans (hE1.trans hE2);have hb1:∀W,Ext w2 W→W.cell? ⟨w.heap.size,0,none⟩=some v:=fun W hW=>hb W (hE1.trans (hE2.trans hW));have hg1:∀W,Ext w2 W→c8 W v l:=fun W hW=>hg W (hE1.trans (hE2.trans hW));clear hb hg hbx hbx1 hE hE1 hE2 h0' hs;have hE:=Ext.refl w2;go_loopw [9] (fun s wr=>∃m:Nat,1≤m∧m≤5∧s=.int .i64 m∧(∀m',1≤m'→m'<m→bxM l n m'=false)∧Ext w2 wr) (fun s _=>5 - (intOf s).toNat);(case atStart=>exact⟨1,by omega,by omega,rfl,by omega,hE⟩);case round =>
      clear hE;obtain⟨m,hm1,hm5,rfl,hno,hE⟩:=hrel;have Hno1:=Lib.hid hno;clear hno;have hmm0:0≤(m:Int)*(m:Int)∧(m:Int)*(m:Int)≤25:=by
       have:=Nat.mul_le_mul hm5 hm5;rw[←Int.natCast_mul];omega
      obtain⟨hmm0,hmm1⟩:=hmm0;by_cases hlt:m*m≤cnt n
      · have hlti:(m:Int)*(m:Int)≤(cnt n:Int):=(by rw[←Int.natCast_mul];omega);have hm4:m≤4:=by
         rcases Nat.lt_or_ge 4 m with c | c
         · have:=Nat.mul_le_mul c c;omega
         · exact c
        have Hlt:=Lib.hid hlt;clear hlt;by_cases hmd:cnt n % m=0
        · have hmod:((cnt n:Int) % (m:Int) != 0)=false:=(by rw[←Int.natCast_emod,hmd];rfl);have hq1:=d70 (m:=m) hcn;have hm0:((m:Int) == 0)=false:=(by simp;omega);have Hmd:=Lib.hid hmd;obtain⟨q,hq⟩:∃q,q=cnt n / m:=⟨_,rfl⟩;have hq24:q≤24:=(by rw[hq];exact Nat.le_trans (Nat.div_le_self _ _) hcn);rw[←hq] at hq1;have Hq1:=Lib.hid hq1;have Hq:=Lib.hid hq;clear hmd hq hq1;go_wp2_with fail;go_loopw [40] (fun s wr=>∃d:Nat,d≤ord l∧s=.int .i64 d∧(∀d',d'<d→∀e,e<ord l→b25 l n m d' e=false)∧Ext w2 wr) (fun s _=>ord l - (intOf s).toNat);(case atStart=>exact⟨0,by omega,rfl,by omega,hE⟩);case round =>
           clear hE;obtain⟨d,hd,rfl,hno,hE⟩:=hrel;have Hno2:=Lib.hid hno;clear hno;by_cases hltd:d<ord l
           · go_wp2_with fail;go_loopw [44] (fun s wr=>∃e:Nat,e≤ord l∧s=.int .i64 e∧(∀e',e'<e→b25 l n m d e'=false)∧Ext w2 wr) (fun s _=>ord l - (intOf s).toNat);(case atStart=>exact⟨0,by omega,rfl,by omega,hE⟩);case round =>
              clear hE;obtain⟨e,he,rfl,hno,hE⟩:=hrel;have Hno3:=Lib.hid hno;clear hno;by_cases hlte:e<ord l
              · have hbu:=fun U=>hb1 _ (hE.trans (b9 wr U));have hgr':∀W,Ext wr W→c8 W v l:=fun W hW=>hg1 W (hE.trans hW);have p1:=X7 Hgr.out (s:=0) (by omega) d m;have p2:=X7 Hgr.out (s:=0) (by omega) e q;have hB:=F5 Hgr.out (G8 l 0 d m) (G8 l 0 e q);have HB:Hid (bxS l n m d e=j3 l (G8 l 0 d m) (G8 l 0 e q)):=Lib.hid (by unfold bxS;rw[Hq.out]);have hE1:=hE;clear hE;have hE:=Ext.refl wr;have d24:d<24:=(by omega);have e24:e<24:=(by omega);have m24:m≤24:=(by omega);have hq1:=Hq1.out;go_wp2_with fail;(refine d0 (wr) (by kernel_rfl) (by kernel_rfl) hE ?_);(repeat (go_big_quiet_step (first | (go_at_call 348;with_reducible exact Calls.lat (bb9 _ _ d m _ (hgr' _ (b9 wr _)) Hgr d24 m24)) | (go_at_call 348;with_reducible exact Calls.lat (bb9 _ _ e q _ (hgr' _ (b9 wr _)) Hgr e24 hq24)) | (go_at_call 119;with_reducible exact Calls.lat (H5 _ _ _ _ _ (hgr' _ (b9 wr _)) Hgr p1 p2)))));(refine wpQuiet_nil ?_);(intro W hE');(replace hE:=l7 hE');(clear hE');replace hE:=hE1.trans hE;rw[←HB.out] at hB;rw[←HB.out];clear hE1 hgr' hbu p1 p2 hq1;by_cases hc:cnt (bxS l n m d e)=cnt n
                · have hci:((cnt (bxS l n m d e):Int) != (cnt n:Int))=false:=(by rw[hc];simp);have Hc:=Lib.hid hc;clear hc;generalize hBB:bxS l n m d e=B at hB HB Hc hci ⊢;have HBB:=Lib.hid hBB;clear hBB;go_wp2_with (first | (go_at_call 107;refine (E0 _ (hB) _).mono ?_;rintro e w' ⟨rfl,rfl⟩));go_loopw [64] (fun s wr=>∃x:Nat,x≤ord l∧s=.int .i64 x∧(∀x',x'<x→¬j2 l B x'=n)∧Ext w2 wr) (fun s _=>ord l - (intOf s).toNat);(case atStart=>exact⟨0,by omega,rfl,by omega,hE⟩);case round =>
                   clear hE;obtain⟨x,hx,rfl,hno,hE⟩:=hrel;have Hno4:=Lib.hid hno;clear hno;by_cases hltx:x<ord l
                   · have hbx:=hb1 _ hE;have x24:x<24:=(by omega);by_cases hsx:j2 l B x=n
                     · have hsi:((j2 l B x:Int) == (n:Int))=true:=(by rw[hsx];simp);have Hz:=Lib.hid (d44 hm1 Hlt.out Hmd.out hltd hlte hltx (by rw[HBB.out];exact Hc.out) (by rw[HBB.out];exact hsx));clear hsx;go_wp2_with fail;refine (J9 _ _ _ _ _ (hg1 _ hE) Hgr hB x24).mono ?_;rintro e' wr ⟨rfl,hE'⟩;replace hE:=hE.trans hE';clear hE' hbx;have hq1:=Hq1.out;have hm0n:¬m=0:=fun e=>Nat.lt_irrefl 0 (by rw[e] at hm1;exact hm1);have hm0':¬(m:Int)=0:=fun e=>hm0n (Int.ofNat_eq_zero.1 e);have hD:=(Ext.refl wr).drew;go_wp2_with fail;(first | (go_region_held3 (fun W=>Ext wr W) (exact xq) (first | fail)) | (fail "the region that returns"));all_goals go_wp2_with fail
                       all_goals
                        first
                        | (refine bodyPost_ret (v:=.tuple #[.slice (some ⟨wr.heap.size,0,none⟩) 2 2,.slice (some ⟨wr.heap.size+1,0,none⟩) 2 2,.bool true]) ?_ rfl ⟨_,_,by rw[Hs.out,Hz.out],eW.trans (hE.trans xq)⟩;(simp[results,Tryz.results304,go_sem];done))
                        | (refine bodyPost_ret (v:=.tuple #[.slice (some ⟨wr.heap.size+1,0,none⟩) 2 2,.slice (some ⟨wr.heap.size,0,none⟩) 2 2,.bool true]) ?_ rfl ⟨_,_,by rw[Hs.out,Hz.out],eW.trans (hE.trans xq)⟩;(simp[results,Tryz.results304,go_sem];done))
                     · have Hsx:=Lib.hid hsx;have hsi:((j2 l B x:Int) == (n:Int))=false:=(by simp;omega);clear hsx;go_wp2_with fail;refine (J9 _ _ _ _ _ (hg1 _ hE) Hgr hB x24).mono ?_;rintro e' wr ⟨rfl,hE'⟩;replace hE:=hE.trans hE';clear hE' hbx;go_wp2_with fail;go_roundw;(case rel=>exact⟨x+1,by omega,by go_num,fun x' h=>by by_cases q:x'=x;(subst q;exact Hsx.out);exact Hno4.out x' (by omega),hE⟩);case measure=>(simp[intOf];omega)
                   · have hxl:x=ord l:=(by omega);have Hn:Hid (b25 l n m d e=false):=Lib.hid (d42 fun x' h=>by rw[HBB.out];exact Hno4.out x' (by omega));go_wp2_with fail;go_roundw;(case rel=>exact⟨e+1,by omega,by go_num,fun e' h=>by by_cases q:e'=e;(subst q;exact Hn.out);exact Hno3.out e' (by omega),hE⟩);case measure=>(simp[intOf];omega)
                · have hci:((cnt (bxS l n m d e):Int) != (cnt n:Int))=true:=(by simp;omega);have Hn:=Lib.hid (cp1 hc);clear hc;generalize bxS l n m d e=B at hB HB hci ⊢;go_wp2_with (first | (go_at_call 107;refine (E0 _ (hB) _).mono ?_;rintro e w' ⟨rfl,rfl⟩));go_roundw;(case rel=>exact⟨e+1,by omega,by go_num,fun e' h=>by by_cases q:e'=e;(subst q;exact Hn.out);exact Hno3.out e' (by omega),hE⟩);case measure=>(simp[intOf];omega)
              · have hel:e=ord l:=(by omega);go_wp2_with fail;go_roundw;(case rel=>exact⟨d+1,by omega,by go_num,fun d' h e' h'=>by by_cases q:d'=d;(subst q;exact Hno3.out e' (by omega));exact Hno2.out d' (by omega) e' h',hE⟩);case measure=>(simp[intOf];omega)
           · have hdl:d=ord l:=(by omega);have Hn:Hid (bxM l n m=false):=Lib.hid (dd3 fun d' h e' h'=>Hno2.out d' (by omega) e' h');go_wp2_with fail;go_roundw;(case rel=>exact⟨m+1,by omega,by omega,by go_num,fun m' h h'=>by by_cases q:m'=m;(subst q;exact Hn.out);exact Hno1.out m' h (by omega),hE⟩);case measure=>(simp[intOf];omega)
        · have hmod:((cnt n:Int) % (m:Int) != 0)=true:=(by rw[←Int.natCast_emod];simp;omega);have hm0:((m:Int) == 0)=false:=(by simp;omega);have Hn:=Lib.hid (d43 (l:=l) hmd);clear hmd;go_wp2_with fail;go_roundw;(case rel=>exact⟨m+1,by omega,by omega,by go_num,fun m' h h'=>by by_cases q:m'=m;(subst q;exact Hn.out);exact Hno1.out m' h (by omega),hE⟩);case measure=>(simp[intOf];omega)
      · have hlti:¬(m:Int)*(m:Int)≤(cnt n:Int):=(by rw[←Int.natCast_mul];omega);have Hz:=Lib.hid (dd4 Hno1.out hlt);clear hlt;go_wp2_with fail;exact bodyPost_ret (v:=.tuple #[.slice (some ⟨wr.heap.size,0,none⟩) 0 0,.slice (some ⟨wr.heap.size+1,0,none⟩) 0 0,.bool false]) (by simp[results,Tryz.results304,go_sem]) rfl ⟨_,_,by rw[Hs.out,Hz.out],eW.trans ((hE.alloc _).alloc _)⟩
theorem cw9(v:Value)(l:List Int)(a:Int)(w:World)(h:c8 w v l) :
 Calls Tryz.prog 285 #[.agg #[v],.int .i64 a] w (dz0 (V7 l a) w):=by
 obtain⟨wb,Hwb,hE0,hb,hg,hE,Hsz⟩:=j60 28 h;clear h;have hbx:=hb wb hE;cases hs:d8 l a
 · have Hs:=Lib.hid (bw7 (I5 hs));go_enter Tryz.func285,Tryz.ntmps285;go_wp2_with fail;rw[←Hwb.out];refine (l5 _ _ _ _ (hg _ hE) hs).mono ?_;rintro e wZ ⟨rfl,hE2⟩;have hEZ:=hE0.trans hE2;go_wp2_with fail;exact bodyPost_ret (v:=.tuple #[.slice (some ⟨wZ.heap.size,0,none⟩) 0 0,.slice (some ⟨wZ.heap.size+1,0,none⟩) 0 0,.bool false]) (by simp[results,Tryz.results285,go_sem]) rfl ⟨_,_,by rw[Hs.out],(hEZ.alloc _).alloc _⟩
 · obtain⟨n,rfl,h1,h2,hgr⟩:=m3 hs;by_cases h0:n=0
   · subst h0;have Hs:Hid (V7 l ((0:Nat):Int)=false):=Lib.hid (bw7 (F4 l));go_enter Tryz.func285,Tryz.ntmps285;go_wp2_with fail;rw[←Hwb.out];refine (l5 _ _ _ _ (hg _ hE) hs).mono ?_;rintro e wZ ⟨rfl,hE2⟩;have hEZ:=hE0.trans hE2;go_wp2_with fail;exact bodyPost_ret (v:=.tuple #[.slice (some ⟨wZ.heap.size,0,none⟩) 0 0,.slice (some ⟨wZ.heap.size+1,0,none⟩) 0 0,.bool false]) (by simp[results,Tryz.results285,go_sem]) rfl ⟨_,_,by rw[Hs.out],(hEZ.alloc _).alloc _⟩
   · have Hs:=Lib.hid (co9 (J5 hs (by omega)));have h0':((n:Int) == 0)=false:=(by simp;omega);have Hgr:=Lib.hid hgr;have hob:=l8 hgr;have hcn:=p7 n;clear hgr h0 h1;go_enter Tryz.func285,Tryz.ntmps285;go_wp2_with fail;rw[←Hwb.out];refine (l5 _ _ _ _ (hg _ hE) hs).mono ?_;rintro e w1 ⟨rfl,hE1⟩;go_wp2_with (first | (go_at_call 66;refine (o9 _ (h2) _).mono ?_;rintro e w' ⟨rfl,rfl⟩));refine (m4 _ _ _ (hg _ hE1) Hgr).mono ?_;rintro e w2 ⟨rfl,hE2⟩;go_wp2_with fail;have eW:=hE0.trans (hE1.trans hE2);have hb1:∀W,Ext w2 W→W.cell? ⟨w.heap.size,0,none⟩=some v:=fun W hW=>hb W (hE1.trans (hE2.trans hW));have hg1:∀W,Ext w2 W→c8 W v l:=fun W hW=>hg W (hE1.trans (hE2.trans hW));clear hb hg hbx hE hE1 hE2 h0' hs;have hE:=Ext.refl w2;go_loopw [9] (fun s wr=>∃m:Nat,1≤m∧m≤5∧s=.int .i64 m∧(∀m',1≤m'→m'<m→bxM l n m'=false)∧Ext w2 wr) (fun s _=>5 - (intOf s).toNat);(case atStart=>exact⟨1,by omega,by omega,rfl,by omega,hE⟩);case round =>
      clear hE;obtain⟨m,hm1,hm5,rfl,hno,hE⟩:=hrel;have Hno1:=Lib.hid hno;clear hno;have hmm0:0≤(m:Int)*(m:Int)∧(m:Int)*(m:Int)≤25:=by
       have:=Nat.mul_le_mul hm5 hm5;rw[←Int.natCast_mul];omega
      obtain⟨hmm0,hmm1⟩:=hmm0;by_cases hlt:m*m≤cnt n
      · have hlti:(m:Int)*(m:Int)≤(cnt n:Int):=(by rw[←Int.natCast_mul];omega);have hm4:m≤4:=by
         rcases Nat.lt_or_ge 4 m with c | c
         · have:=Nat.mul_le_mul c c;omega
         · exact c
        have Hlt:=Lib.hid hlt;clear hlt;by_cases hmd:cnt n % m=0
        · have hmod:((cnt n:Int) % (m:Int) != 0)=false:=(by rw[←Int.natCast_emod,hmd];rfl);have hq1:=d70 (m:=m) hcn;have hm0:((m:Int) == 0)=false:=(by simp;omega);have Hmd:=Lib.hid hmd;obtain⟨q,hq⟩:∃q,q=cnt n / m:=⟨_,rfl⟩;have hq24:q≤24:=(by rw[hq];exact Nat.le_trans (Nat.div_le_self _ _) hcn);rw[←hq] at hq1;have Hq1:=Lib.hid hq1;have Hq:=Lib.hid hq;clear hmd hq hq1;go_wp2_with fail;go_loopw [10] (fun s wr=>∃d:Nat,d≤ord l∧s=.int .i64 d∧(∀d',d'<d→∀e,e<ord l→b25 l n m d' e=false)∧Ext w2 wr) (fun s _=>ord l - (intOf s).toNat);(case atStart=>exact⟨0,by omega,rfl,by omega,hE⟩);case round =>
           clear hE;obtain⟨d,hd,rfl,hno,hE⟩:=hrel;have Hno2:=Lib.hid hno;clear hno;by_cases hltd:d<ord l
           · have hbx:=hb1 _ hE;have d24:d<24:=(by omega);have m24:m≤24:=(by omega);have p1:=X7 Hgr.out (s:=0) (by omega) d m;go_wp2_with fail;refine (b38 _ _ d m _ (hg1 _ hE) Hgr d24 m24).mono ?_;rintro e0 w3 ⟨rfl,hE'⟩;replace hE:=hE.trans hE';clear hE' hbx;go_wp2_with fail;go_loopw [12] (fun s wr=>∃e:Nat,e≤ord l∧s=.int .i64 e∧(∀e',e'<e→b25 l n m d e'=false)∧Ext w2 wr) (fun s _=>ord l - (intOf s).toNat);(case atStart=>exact⟨0,by omega,rfl,by omega,hE⟩);case round =>
              clear hE;obtain⟨e,he,rfl,hno,hE⟩:=hrel;have Hno3:=Lib.hid hno;clear hno;by_cases hlte:e<ord l
              · have hbu:=fun U=>hb1 _ (hE.trans (b9 wr U));have hgr':∀W,Ext wr W→c8 W v l:=fun W hW=>hg1 W (hE.trans hW);have p2:=X7 Hgr.out (s:=0) (by omega) e q;have hB:=F5 Hgr.out (G8 l 0 d m) (G8 l 0 e q);have HB:Hid (bxS l n m d e=j3 l (G8 l 0 d m) (G8 l 0 e q)):=Lib.hid (by unfold bxS;rw[Hq.out]);have hE1:=hE;clear hE;have hE:=Ext.refl wr;have e24:e<24:=(by omega);have hq1:=Hq1.out;go_wp2_with fail;(refine d0 (wr) (by kernel_rfl) (by kernel_rfl) hE ?_);(repeat (go_big_quiet_step (first | (go_at_call 333;with_reducible exact Calls.lat (b38 _ _ e q _ (hgr' _ (b9 wr _)) Hgr e24 hq24)) | (go_at_call 49;with_reducible exact Calls.lat (E4 _ _ _ _ _ (hgr' _ (b9 wr _)) Hgr p1 p2)))));(refine wpQuiet_nil ?_);(intro W hE');(replace hE:=l7 hE');(clear hE');replace hE:=hE1.trans hE;rw[←HB.out] at hB;rw[←HB.out];clear hE1 hgr' hbu p2 hq1;by_cases hc:cnt (bxS l n m d e)=cnt n
                · have hci:((cnt (bxS l n m d e):Int) != (cnt n:Int))=false:=(by rw[hc];simp);have Hc:=Lib.hid hc;clear hc;generalize hBB:bxS l n m d e=B at hB HB Hc hci ⊢;have HBB:=Lib.hid hBB;clear hBB;go_wp2_with (first | (go_at_call 66;refine (o9 _ (hB) _).mono ?_;rintro e w' ⟨rfl,rfl⟩));go_loopw [14] (fun s wr=>∃x:Nat,x≤ord l∧s=.int .i64 x∧(∀x',x'<x→¬j2 l B x'=n)∧Ext w2 wr) (fun s _=>ord l - (intOf s).toNat);(case atStart=>exact⟨0,by omega,rfl,by omega,hE⟩);case round =>
                   clear hE;obtain⟨x,hx,rfl,hno,hE⟩:=hrel;have Hno4:=Lib.hid hno;clear hno;by_cases hltx:x<ord l
                   · have hbx:=hb1 _ hE;have x24:x<24:=(by omega);by_cases hsx:j2 l B x=n
                     · have hsi:((j2 l B x:Int) == (n:Int))=true:=(by rw[hsx];simp);have Hz:=Lib.hid (d44 hm1 Hlt.out Hmd.out hltd hlte hltx (by rw[HBB.out];exact Hc.out) (by rw[HBB.out];exact hsx));clear hsx;go_wp2_with fail;refine (I8 _ _ _ _ _ (hg1 _ hE) Hgr hB x24).mono ?_;rintro e' wr ⟨rfl,hE'⟩;replace hE:=hE.trans hE';clear hE' hbx;have hq1:=Hq1.out;have hm0n:¬m=0:=fun e=>Nat.lt_irrefl 0 (by rw[e] at hm1;exact hm1);have hm0':¬(m:Int)=0:=fun e=>hm0n (Int.ofNat_eq_zero.1 e);have hD:=(Ext.refl wr).drew;go_wp2_with fail;(first | (go_region_held3 (fun W=>Ext wr W) (exact xq) (first | fail)) | (fail "the region that returns"));all_goals go_wp2_with fail
                       all_goals
                        first
                        | (refine bodyPost_ret (v:=.tuple #[.slice (some ⟨wr.heap.size,0,none⟩) 2 2,.slice (some ⟨wr.heap.size+1,0,none⟩) 2 2,.bool true]) ?_ rfl ⟨_,_,by rw[Hs.out,Hz.out],eW.trans (hE.trans xq)⟩;(simp[results,Tryz.results285,go_sem];done))
                        | (refine bodyPost_ret (v:=.tuple #[.slice (some ⟨wr.heap.size+1,0,none⟩) 2 2,.slice (some ⟨wr.heap.size,0,none⟩) 2 2,.bool true]) ?_ rfl ⟨_,_,by rw[Hs.out,Hz.out],eW.trans (hE.trans xq)⟩;(simp[results,Tryz.results285,go_sem];done))
                     · have Hsx:=Lib.hid hsx;have hsi:((j2 l B x:Int) == (n:Int))=false:=(by simp;omega);clear hsx;go_wp2_with fail;refine (I8 _ _ _ _ _ (hg1 _ hE) Hgr hB x24).mono ?_;rintro e' wr ⟨rfl,hE'⟩;replace hE:=hE.trans hE';clear hE' hbx;go_wp2_with fail;go_roundw;(case rel=>exact⟨x+1,by omega,by go_num,fun x' h=>by by_cases q:x'=x;(subst q;exact Hsx.out);exact Hno4.out x' (by omega),hE⟩);case measure=>(simp[intOf];omega)
                   · have hxl:x=ord l:=(by omega);have Hn:Hid (b25 l n m d e=false):=Lib.hid (d42 fun x' h=>by rw[HBB.out];exact Hno4.out x' (by omega));go_wp2_with fail;go_roundw;(case rel=>exact⟨e+1,by omega,by go_num,fun e' h=>by by_cases q:e'=e;(subst q;exact Hn.out);exact Hno3.out e' (by omega),hE⟩);case measure=>(simp[intOf];omega)
                · have hci:((cnt (bxS l n m d e):Int) != (cnt n:Int))=true:=(by simp;omega);have Hn:=Lib.hid (cp1 hc);clear hc;generalize bxS l n m d e=B at hB HB hci ⊢;go_wp2_with (first | (go_at_call 66;refine (o9 _ (hB) _).mono ?_;rintro e w' ⟨rfl,rfl⟩));go_roundw;(case rel=>exact⟨e+1,by omega,by go_num,fun e' h=>by by_cases q:e'=e;(subst q;exact Hn.out);exact Hno3.out e' (by omega),hE⟩);case measure=>(simp[intOf];omega)
              · have hel:e=ord l:=(by omega);go_wp2_with fail;go_roundw;(case rel=>exact⟨d+1,by omega,by go_num,fun d' h e' h'=>by by_cases q:d'=d;(subst q;exact Hno3.out e' (by omega));exact Hno2.out d' (by omega) e' h',hE⟩);case measure=>(simp[intOf];omega)
           · have hdl:d=ord l:=(by omega);have Hn:Hid (bxM l n m=false):=Lib.hid (dd3 fun d' h e' h'=>Hno2.out d' (by omega) e' h');go_wp2_with fail;go_roundw;(case rel=>exact⟨m+1,by omega,by omega,by go_num,fun m' h h'=>by by_cases q:m'=m;(subst q;exact Hn.out);exact Hno1.out m' h (by omega),hE⟩);case measure=>(simp[intOf];omega)
        · have hmod:((cnt n:Int) % (m:Int) != 0)=true:=(by rw[←Int.natCast_emod];simp;omega);have hm0:((m:Int) == 0)=false:=(by simp;omega);have Hn:=Lib.hid (d43 (l:=l) hmd);clear hmd;go_wp2_with fail;go_roundw;(case rel=>exact⟨m+1,by omega,by omega,by go_num,fun m' h h'=>by by_cases q:m'=m;(subst q;exact Hn.out);exact Hno1.out m' h (by omega),hE⟩);case measure=>(simp[intOf];omega)
      · have hlti:¬(m:Int)*(m:Int)≤(cnt n:Int):=(by rw[←Int.natCast_mul];omega);have Hz:=Lib.hid (dd4 Hno1.out hlt);clear hlt;go_wp2_with fail;exact bodyPost_ret (v:=.tuple #[.slice (some ⟨wr.heap.size,0,none⟩) 0 0,.slice (some ⟨wr.heap.size+1,0,none⟩) 0 0,.bool false]) (by simp[results,Tryz.results285,go_sem]) rfl ⟨_,_,by rw[Hs.out,Hz.out],eW.trans ((hE.alloc _).alloc _)⟩
theorem dc0(v:Value)(l:List Int)(a:Int)(w:World)(h:c8 w v l) :
 Calls Tryz.prog 219 #[.agg #[v],.int .i64 a] w fun e w'=>e=.returned (.bool (V7 l a))∧Ext w w':=by
 obtain⟨wb,Hwb,hE0,hb,hg,hE,Hsz⟩:=j60 28 h;clear h;have hbx:=hb wb hE;go_enter Tryz.func219,Tryz.ntmps219;go_wp2_with fail;rw[←Hwb.out];refine (d02 _ _ _ _ (hg _ hE)).mono ?_;rintro e w1 ⟨p,q,rfl,hE1⟩;go_wp2_with fail;go_ret;exact⟨rfl,hE0.trans hE1⟩
theorem bq4(v:Value)(l:List Int)(a:Int)(w:World)(h:c8 w v l){c:Bool}(hc:V7 l a=c) :
 Calls Tryz.prog 219 #[.agg #[v],.int .i64 a] w fun e w'=>e=.returned (.bool c)∧Ext w w':=by subst hc;exact dc0 v l a w h
theorem da9(v:Value)(l:List Int)(a:Int)(w:World)(h:c8 w v l) :
 Calls Tryz.prog 188 #[.agg #[v],.int .i64 a] w fun e w'=>e=.returned (.bool (V7 l a))∧Ext w w':=by
 obtain⟨wb,Hwb,hE0,hb,hg,hE,Hsz⟩:=j60 28 h;clear h;have hbx:=hb wb hE;go_enter Tryz.func188,Tryz.ntmps188;go_wp2_with fail;rw[←Hwb.out];refine (cw9 _ _ _ _ (hg _ hE)).mono ?_;rintro e w1 ⟨p,q,rfl,hE1⟩;go_wp2_with fail;go_ret;exact⟨rfl,hE0.trans hE1⟩
theorem bn4(v:Value)(l:List Int)(a:Int)(w:World)(h:c8 w v l){c:Bool}(hc:V7 l a=c) :
 Calls Tryz.prog 188 #[.agg #[v],.int .i64 a] w fun e w'=>e=.returned (.bool c)∧Ext w w':=by subst hc;exact da9 v l a w h
end Go.Zz
namespace Go.Zz
open Go.RowKit Go.Proofs
set_option maxHeartbeats 2000000
set_option linter.unusedSimpArgs false
set_option maxRecDepth 20000
noncomputable def stF (l:List Int) (a:Int):ByteArray :=
 if d8 l a then if a=0 then ⟨#[101,109,112,116,121]⟩ else if (decide (a.toNat=j4 l)) then ⟨#[119,104,111,108,101]⟩ else if V8 l a then ⟨#[99,111,115,101,116]⟩ else if I6 l a then ⟨#[112,101,114,105,111,100,105,99]⟩ else if b52 l a then ⟨#[112,114,111,103,114,101,115,115,105,111,110]⟩ else if V7 l a then ⟨#[98,111,120]⟩ else if sidB l a then ⟨#[115,105,100,111,110]⟩ else ⟨#[111,116,104,101,114]⟩
 else ⟨#[]⟩
theorem ds9{l:List Int}{a:Int}(h:d8 l a=false):stF l a=⟨#[]⟩:=by unfold stF;rw[h];rfl
theorem d76{l:List Int}(h:d8 l ((0:Nat):Int)=true):stF l ((0:Nat):Int)=⟨#[101,109,112,116,121]⟩:=by unfold stF;rw[h];rfl
theorem j27{l:List Int}{n:Nat}(h:d8 l n=true)(h0':n≠0)(h0:decide (n=j4 l)=true):stF l n=⟨#[119,104,111,108,101]⟩:=by
 unfold stF;rw[if_pos h,if_neg (by omega)];simp only[Int.toNat_natCast,h0,if_true,if_false,Bool.false_eq_true]
theorem j28{l:List Int}{n:Nat}(h:d8 l n=true)(h0':n≠0)(h0:decide (n=j4 l)=false)(h1:V8 l n=true):stF l n=⟨#[99,111,115,101,116]⟩:=by
 unfold stF;rw[if_pos h,if_neg (by omega)];simp only[Int.toNat_natCast,h0,h1,if_true,if_false,Bool.false_eq_true]
theorem j29{l:List Int}{n:Nat}(h:d8 l n=true)(h0':n≠0)(h0:decide (n=j4 l)=false)(h1:V8 l n=false)(h2:I6 l n=true):stF l n=⟨#[112,101,114,105,111,100,105,99]⟩:=by
 unfold stF;rw[if_pos h,if_neg (by omega)];simp only[Int.toNat_natCast,h0,h1,h2,if_true,if_false,Bool.false_eq_true]
theorem j30{l:List Int}{n:Nat}(h:d8 l n=true)(h0':n≠0)(h0:decide (n=j4 l)=false)(h1:V8 l n=false)(h2:I6 l n=false)(h3:b52 l n=true):stF l n=⟨#[112,114,111,103,114,101,115,115,105,111,110]⟩:=by
 unfold stF;rw[if_pos h,if_neg (by omega)];simp only[Int.toNat_natCast,h0,h1,h2,h3,if_true,if_false,Bool.false_eq_true]
theorem j31{l:List Int}{n:Nat}(h:d8 l n=true)(h0':n≠0)(h0:decide (n=j4 l)=false)(h1:V8 l n=false)(h2:I6 l n=false)(h3:b52 l n=false)(h4:V7 l n=true):stF l n=⟨#[98,111,120]⟩:=by
 unfold stF;rw[if_pos h,if_neg (by omega)];simp only[Int.toNat_natCast,h0,h1,h2,h3,h4,if_true,if_false,Bool.false_eq_true]
theorem j32{l:List Int}{n:Nat}(h:d8 l n=true)(h0':n≠0)(h0:decide (n=j4 l)=false)(h1:V8 l n=false)(h2:I6 l n=false)(h3:b52 l n=false)(h4:V7 l n=false)(h5:sidB l n=true):stF l n=⟨#[115,105,100,111,110]⟩:=by
 unfold stF;rw[if_pos h,if_neg (by omega)];simp only[Int.toNat_natCast,h0,h1,h2,h3,h4,h5,if_true,if_false,Bool.false_eq_true]
theorem j33{l:List Int}{n:Nat}(h:d8 l n=true)(h0':n≠0)(h0:decide (n=j4 l)=false)(h1:V8 l n=false)(h2:I6 l n=false)(h3:b52 l n=false)(h4:V7 l n=false)(h5:sidB l n=false):stF l n=⟨#[111,116,104,101,114]⟩:=by
 unfold stF;rw[if_pos h,if_neg (by omega)];simp only[Int.toNat_natCast,h0,h1,h2,h3,h4,h5,if_true,if_false,Bool.false_eq_true]
theorem c58(v:Value)(l:List Int)(a:Int)(w:World)(h:c8 w v l) :
 Calls Tryz.prog 108 #[.agg #[v],.int .i64 a] w fun e w'=>e=.returned (.string (stF l a))∧Ext w w':=by
 obtain⟨wb,Hwb,hE0,hb,hg,hE,Hsz⟩:=j60 28 h;clear h;have hbx:=hb wb hE;cases hs:d8 l a
 · have Hs:=Lib.hid (ds9 hs);go_enter Tryz.func108,Tryz.ntmps108;go_wp2_with fail;rw[←Hwb.out];go_wp2_with (first | (go_at_call 105;refine cx (o7 _ _ _ _ (hg _ hE) (hs)) hE ?_;clear hE;intro w' hE));go_ret;exact⟨d9 Hs.out.symm,hE0.trans hE⟩
 · obtain⟨n,rfl,h1,h2,hgr⟩:=m3 hs;by_cases h0:n=0
   · subst h0;have Hs:=Lib.hid (d76 hs);go_enter Tryz.func108,Tryz.ntmps108;go_wp2_with fail;rw[←Hwb.out];go_wp2_with (first | (go_at_call 105;refine cx (o7 _ _ _ _ (hg _ hE) (hs)) hE ?_;clear hE;intro w' hE));go_ret;exact⟨d9 Hs.out.symm,hE0.trans hE⟩
   · have h0':((n:Int) == 0)=false:=(by simp;omega);have H0:=Lib.hid h0;have Hgr:=Lib.hid hgr;have hob:=l8 hgr;have hfl:=ba9 l;have hfb:=Nat.lt_of_lt_of_le hfl (E1 hgr);have hs1:=p0 (n:=ord l) (by omega);have hpw:=b04 hob.2;have hpp:=R5 (ord l);have Hfw:Hid (((pw (ord l):Nat):Int) - 1=(j4 l:Int)):=Lib.hid (by unfold j4;omega);clear hgr h0;cases c0:decide (n=j4 l);rotate_left
     ·
        have Hz:=Lib.hid (j27 hs H0.out c0)
        have hfe:((n:Int) == (j4 l:Int))=decide (n=j4 l):=(by rw[Bool.eq_iff_iff];simp;omega);rw[c0] at hfe
        skip
        go_enter Tryz.func108,Tryz.ntmps108
        go_wp2_with fail
        rw[←Hwb.out]
        go_wp2_with (first | (go_at_call 105;refine cx (o7 _ _ _ _ (hg _ hE) (hs)) hE ?_;clear hE;intro w' hE) | (go_at_call 215;refine cx (F2 _ _ _ (hg _ hE) (Hgr)) hE ?_;clear hE;intro w' hE))
        go_ret
        exact⟨d9 Hz.out.symm,hE0.trans hE⟩
     cases c1:V8 l n;rotate_left
     ·
        have Hz:=Lib.hid (j28 hs H0.out c0 c1)
        have hfe:((n:Int) == (j4 l:Int))=decide (n=j4 l):=(by rw[Bool.eq_iff_iff];simp;omega);rw[c0] at hfe
        skip
        go_enter Tryz.func108,Tryz.ntmps108
        go_wp2_with fail
        rw[←Hwb.out]
        go_wp2_with (first | (go_at_call 105;refine cx (o7 _ _ _ _ (hg _ hE) (hs)) hE ?_;clear hE;intro w' hE) | (go_at_call 215;refine cx (F2 _ _ _ (hg _ hE) (Hgr)) hE ?_;clear hE;intro w' hE) | (go_at_call 216;refine cx (V4 _ _ _ _ (hg _ hE) c1) hE ?_;clear hE;intro w' hE))
        go_ret
        exact⟨d9 Hz.out.symm,hE0.trans hE⟩
     cases c2:I6 l n;rotate_left
     ·
        have Hz:=Lib.hid (j29 hs H0.out c0 c1 c2)
        have hfe:((n:Int) == (j4 l:Int))=decide (n=j4 l):=(by rw[Bool.eq_iff_iff];simp;omega);rw[c0] at hfe
        skip
        go_enter Tryz.func108,Tryz.ntmps108
        go_wp2_with fail
        rw[←Hwb.out]
        go_wp2_with (first | (go_at_call 105;refine cx (o7 _ _ _ _ (hg _ hE) (hs)) hE ?_;clear hE;intro w' hE) | (go_at_call 215;refine cx (F2 _ _ _ (hg _ hE) (Hgr)) hE ?_;clear hE;intro w' hE) | (go_at_call 216;refine cx (V4 _ _ _ _ (hg _ hE) c1) hE ?_;clear hE;intro w' hE) | (go_at_call 217;refine cx (H3 _ _ _ _ (hg _ hE) c2) hE ?_;clear hE;intro w' hE))
        go_ret
        exact⟨d9 Hz.out.symm,hE0.trans hE⟩
     cases c3:b52 l n;rotate_left
     ·
        have Hz:=Lib.hid (j30 hs H0.out c0 c1 c2 c3)
        have hfe:((n:Int) == (j4 l:Int))=decide (n=j4 l):=(by rw[Bool.eq_iff_iff];simp;omega);rw[c0] at hfe
        skip
        go_enter Tryz.func108,Tryz.ntmps108
        go_wp2_with fail
        rw[←Hwb.out]
        go_wp2_with (first | (go_at_call 105;refine cx (o7 _ _ _ _ (hg _ hE) (hs)) hE ?_;clear hE;intro w' hE) | (go_at_call 215;refine cx (F2 _ _ _ (hg _ hE) (Hgr)) hE ?_;clear hE;intro w' hE) | (go_at_call 216;refine cx (V4 _ _ _ _ (hg _ hE) c1) hE ?_;clear hE;intro w' hE) | (go_at_call 217;refine cx (H3 _ _ _ _ (hg _ hE) c2) hE ?_;clear hE;intro w' hE) | (go_at_call 218;refine cx (T3 _ _ _ _ (hg _ hE) c3) hE ?_;clear hE;intro w' hE))
        go_ret
        exact⟨d9 Hz.out.symm,hE0.trans hE⟩
     cases c4:V7 l n;rotate_left
     ·
        have Hz:=Lib.hid (j31 hs H0.out c0 c1 c2 c3 c4)
        have hfe:((n:Int) == (j4 l:Int))=decide (n=j4 l):=(by rw[Bool.eq_iff_iff];simp;omega);rw[c0] at hfe
        skip
        go_enter Tryz.func108,Tryz.ntmps108
        go_wp2_with fail
        rw[←Hwb.out]
        go_wp2_with (first | (go_at_call 105;refine cx (o7 _ _ _ _ (hg _ hE) (hs)) hE ?_;clear hE;intro w' hE) | (go_at_call 215;refine cx (F2 _ _ _ (hg _ hE) (Hgr)) hE ?_;clear hE;intro w' hE) | (go_at_call 216;refine cx (V4 _ _ _ _ (hg _ hE) c1) hE ?_;clear hE;intro w' hE) | (go_at_call 217;refine cx (H3 _ _ _ _ (hg _ hE) c2) hE ?_;clear hE;intro w' hE) | (go_at_call 218;refine cx (T3 _ _ _ _ (hg _ hE) c3) hE ?_;clear hE;intro w' hE) | (go_at_call 219;refine cx (bq4 _ _ _ _ (hg _ hE) c4) hE ?_;clear hE;intro w' hE))
        go_ret
        exact⟨d9 Hz.out.symm,hE0.trans hE⟩
     cases c5:sidB l n;rotate_left
     ·
        have Hz:=Lib.hid (j32 hs H0.out c0 c1 c2 c3 c4 c5)
        have hfe:((n:Int) == (j4 l:Int))=decide (n=j4 l):=(by rw[Bool.eq_iff_iff];simp;omega);rw[c0] at hfe
        skip
        go_enter Tryz.func108,Tryz.ntmps108
        go_wp2_with fail
        rw[←Hwb.out]
        go_wp2_with (first | (go_at_call 105;refine cx (o7 _ _ _ _ (hg _ hE) (hs)) hE ?_;clear hE;intro w' hE) | (go_at_call 215;refine cx (F2 _ _ _ (hg _ hE) (Hgr)) hE ?_;clear hE;intro w' hE) | (go_at_call 216;refine cx (V4 _ _ _ _ (hg _ hE) c1) hE ?_;clear hE;intro w' hE) | (go_at_call 217;refine cx (H3 _ _ _ _ (hg _ hE) c2) hE ?_;clear hE;intro w' hE) | (go_at_call 218;refine cx (T3 _ _ _ _ (hg _ hE) c3) hE ?_;clear hE;intro w' hE) | (go_at_call 219;refine cx (bq4 _ _ _ _ (hg _ hE) c4) hE ?_;clear hE;intro w' hE) | (go_at_call 115;refine cx (bz6 _ _ _ _ (hg _ hE) c5) hE ?_;clear hE;intro w' hE))
        go_ret
        exact⟨d9 Hz.out.symm,hE0.trans hE⟩
     have Hz:=Lib.hid (j33 hs H0.out c0 c1 c2 c3 c4 c5);have hfe:((n:Int) == (j4 l:Int))=decide (n=j4 l):=(by rw[Bool.eq_iff_iff];simp;omega);rw[c0] at hfe;skip;go_enter Tryz.func108,Tryz.ntmps108;go_wp2_with fail;rw[←Hwb.out];go_wp2_with (first | (go_at_call 105;refine cx (o7 _ _ _ _ (hg _ hE) (hs)) hE ?_;clear hE;intro w' hE) | (go_at_call 215;refine cx (F2 _ _ _ (hg _ hE) (Hgr)) hE ?_;clear hE;intro w' hE) | (go_at_call 216;refine cx (V4 _ _ _ _ (hg _ hE) c1) hE ?_;clear hE;intro w' hE) | (go_at_call 217;refine cx (H3 _ _ _ _ (hg _ hE) c2) hE ?_;clear hE;intro w' hE) | (go_at_call 218;refine cx (T3 _ _ _ _ (hg _ hE) c3) hE ?_;clear hE;intro w' hE) | (go_at_call 219;refine cx (bq4 _ _ _ _ (hg _ hE) c4) hE ?_;clear hE;intro w' hE) | (go_at_call 115;refine cx (bz6 _ _ _ _ (hg _ hE) c5) hE ?_;clear hE;intro w' hE));go_ret;exact⟨d9 Hz.out.symm,hE0.trans hE⟩
theorem c48(v:Value)(l:List Int)(a:Int)(w:World)(h:c8 w v l) :
 Calls Tryz.prog 67 #[.agg #[v],.int .i64 a] w fun e w'=>e=.returned (.string (stF l a))∧Ext w w':=by
 obtain⟨wb,Hwb,hE0,hb,hg,hE,Hsz⟩:=j60 28 h;clear h;have hbx:=hb wb hE;cases hs:d8 l a
 · have Hs:=Lib.hid (ds9 hs);go_enter Tryz.func67,Tryz.ntmps67;go_wp2_with fail;rw[←Hwb.out];go_wp2_with (first | (go_at_call 46;refine cx (l5 _ _ _ _ (hg _ hE) (hs)) hE ?_;clear hE;intro w' hE));go_ret;exact⟨d9 Hs.out.symm,hE0.trans hE⟩
 · obtain⟨n,rfl,h1,h2,hgr⟩:=m3 hs;by_cases h0:n=0
   · subst h0;have Hs:=Lib.hid (d76 hs);go_enter Tryz.func67,Tryz.ntmps67;go_wp2_with fail;rw[←Hwb.out];go_wp2_with (first | (go_at_call 46;refine cx (l5 _ _ _ _ (hg _ hE) (hs)) hE ?_;clear hE;intro w' hE));go_ret;exact⟨d9 Hs.out.symm,hE0.trans hE⟩
   · have h0':((n:Int) == 0)=false:=(by simp;omega);have H0:=Lib.hid h0;have Hgr:=Lib.hid hgr;have hob:=l8 hgr;have hfl:=ba9 l;have hfb:=Nat.lt_of_lt_of_le hfl (E1 hgr);have hs1:=p0 (n:=ord l) (by omega);have hpw:=b04 hob.2;have hpp:=R5 (ord l);have Hfw:Hid (((pw (ord l):Nat):Int) - 1=(j4 l:Int)):=Lib.hid (by unfold j4;omega);clear hgr h0;cases c0:decide (n=j4 l);rotate_left
     ·
        have Hz:=Lib.hid (j27 hs H0.out c0)
        have hfe:((n:Int) == ((pw (ord l):Nat):Int) - 1)=decide (n=j4 l):=(by rw[Hfw.out,Bool.eq_iff_iff];simp;omega);rw[c0] at hfe
        skip
        go_enter Tryz.func67,Tryz.ntmps67
        go_wp2_with fail
        rw[←Hwb.out]
        go_wp2_with (first | (go_at_call 46;refine cx (l5 _ _ _ _ (hg _ hE) (hs)) hE ?_;clear hE;intro w' hE) | (go_at_call 43;refine cx (m4 _ _ _ (hg _ hE) (Hgr)) hE ?_;clear hE;intro w' hE))
        go_ret
        exact⟨d9 Hz.out.symm,hE0.trans hE⟩
     cases c1:V8 l n;rotate_left
     ·
        have Hz:=Lib.hid (j28 hs H0.out c0 c1)
        have hfe:((n:Int) == ((pw (ord l):Nat):Int) - 1)=decide (n=j4 l):=(by rw[Hfw.out,Bool.eq_iff_iff];simp;omega);rw[c0] at hfe
        skip
        go_enter Tryz.func67,Tryz.ntmps67
        go_wp2_with fail
        rw[←Hwb.out]
        go_wp2_with (first | (go_at_call 46;refine cx (l5 _ _ _ _ (hg _ hE) (hs)) hE ?_;clear hE;intro w' hE) | (go_at_call 43;refine cx (m4 _ _ _ (hg _ hE) (Hgr)) hE ?_;clear hE;intro w' hE) | (go_at_call 185;refine cx (U0 _ _ _ _ (hg _ hE) c1) hE ?_;clear hE;intro w' hE))
        go_ret
        exact⟨d9 Hz.out.symm,hE0.trans hE⟩
     cases c2:I6 l n;rotate_left
     ·
        have Hz:=Lib.hid (j29 hs H0.out c0 c1 c2)
        have hfe:((n:Int) == ((pw (ord l):Nat):Int) - 1)=decide (n=j4 l):=(by rw[Hfw.out,Bool.eq_iff_iff];simp;omega);rw[c0] at hfe
        skip
        go_enter Tryz.func67,Tryz.ntmps67
        go_wp2_with fail
        rw[←Hwb.out]
        go_wp2_with (first | (go_at_call 46;refine cx (l5 _ _ _ _ (hg _ hE) (hs)) hE ?_;clear hE;intro w' hE) | (go_at_call 43;refine cx (m4 _ _ _ (hg _ hE) (Hgr)) hE ?_;clear hE;intro w' hE) | (go_at_call 185;refine cx (U0 _ _ _ _ (hg _ hE) c1) hE ?_;clear hE;intro w' hE) | (go_at_call 186;refine cx (G4 _ _ _ _ (hg _ hE) c2) hE ?_;clear hE;intro w' hE))
        go_ret
        exact⟨d9 Hz.out.symm,hE0.trans hE⟩
     cases c3:b52 l n;rotate_left
     ·
        have Hz:=Lib.hid (j30 hs H0.out c0 c1 c2 c3)
        have hfe:((n:Int) == ((pw (ord l):Nat):Int) - 1)=decide (n=j4 l):=(by rw[Hfw.out,Bool.eq_iff_iff];simp;omega);rw[c0] at hfe
        skip
        go_enter Tryz.func67,Tryz.ntmps67
        go_wp2_with fail
        rw[←Hwb.out]
        go_wp2_with (first | (go_at_call 46;refine cx (l5 _ _ _ _ (hg _ hE) (hs)) hE ?_;clear hE;intro w' hE) | (go_at_call 43;refine cx (m4 _ _ _ (hg _ hE) (Hgr)) hE ?_;clear hE;intro w' hE) | (go_at_call 185;refine cx (U0 _ _ _ _ (hg _ hE) c1) hE ?_;clear hE;intro w' hE) | (go_at_call 186;refine cx (G4 _ _ _ _ (hg _ hE) c2) hE ?_;clear hE;intro w' hE) | (go_at_call 187;refine cx (R6 _ _ _ _ (hg _ hE) c3) hE ?_;clear hE;intro w' hE))
        go_ret
        exact⟨d9 Hz.out.symm,hE0.trans hE⟩
     cases c4:V7 l n;rotate_left
     ·
        have Hz:=Lib.hid (j31 hs H0.out c0 c1 c2 c3 c4)
        have hfe:((n:Int) == ((pw (ord l):Nat):Int) - 1)=decide (n=j4 l):=(by rw[Hfw.out,Bool.eq_iff_iff];simp;omega);rw[c0] at hfe
        skip
        go_enter Tryz.func67,Tryz.ntmps67
        go_wp2_with fail
        rw[←Hwb.out]
        go_wp2_with (first | (go_at_call 46;refine cx (l5 _ _ _ _ (hg _ hE) (hs)) hE ?_;clear hE;intro w' hE) | (go_at_call 43;refine cx (m4 _ _ _ (hg _ hE) (Hgr)) hE ?_;clear hE;intro w' hE) | (go_at_call 185;refine cx (U0 _ _ _ _ (hg _ hE) c1) hE ?_;clear hE;intro w' hE) | (go_at_call 186;refine cx (G4 _ _ _ _ (hg _ hE) c2) hE ?_;clear hE;intro w' hE) | (go_at_call 187;refine cx (R6 _ _ _ _ (hg _ hE) c3) hE ?_;clear hE;intro w' hE) | (go_at_call 188;refine cx (bn4 _ _ _ _ (hg _ hE) c4) hE ?_;clear hE;intro w' hE))
        go_ret
        exact⟨d9 Hz.out.symm,hE0.trans hE⟩
     cases c5:sidB l n;rotate_left
     ·
        have Hz:=Lib.hid (j32 hs H0.out c0 c1 c2 c3 c4 c5)
        have hfe:((n:Int) == ((pw (ord l):Nat):Int) - 1)=decide (n=j4 l):=(by rw[Hfw.out,Bool.eq_iff_iff];simp;omega);rw[c0] at hfe
        skip
        go_enter Tryz.func67,Tryz.ntmps67
        go_wp2_with fail
        rw[←Hwb.out]
        go_wp2_with (first | (go_at_call 46;refine cx (l5 _ _ _ _ (hg _ hE) (hs)) hE ?_;clear hE;intro w' hE) | (go_at_call 43;refine cx (m4 _ _ _ (hg _ hE) (Hgr)) hE ?_;clear hE;intro w' hE) | (go_at_call 185;refine cx (U0 _ _ _ _ (hg _ hE) c1) hE ?_;clear hE;intro w' hE) | (go_at_call 186;refine cx (G4 _ _ _ _ (hg _ hE) c2) hE ?_;clear hE;intro w' hE) | (go_at_call 187;refine cx (R6 _ _ _ _ (hg _ hE) c3) hE ?_;clear hE;intro w' hE) | (go_at_call 188;refine cx (bn4 _ _ _ _ (hg _ hE) c4) hE ?_;clear hE;intro w' hE) | (go_at_call 74;refine cx (bv1 _ _ _ _ (hg _ hE) c5) hE ?_;clear hE;intro w' hE))
        go_ret
        exact⟨d9 Hz.out.symm,hE0.trans hE⟩
     have Hz:=Lib.hid (j33 hs H0.out c0 c1 c2 c3 c4 c5);have hfe:((n:Int) == ((pw (ord l):Nat):Int) - 1)=decide (n=j4 l):=(by rw[Hfw.out,Bool.eq_iff_iff];simp;omega);rw[c0] at hfe;skip;go_enter Tryz.func67,Tryz.ntmps67;go_wp2_with fail;rw[←Hwb.out];go_wp2_with (first | (go_at_call 46;refine cx (l5 _ _ _ _ (hg _ hE) (hs)) hE ?_;clear hE;intro w' hE) | (go_at_call 43;refine cx (m4 _ _ _ (hg _ hE) (Hgr)) hE ?_;clear hE;intro w' hE) | (go_at_call 185;refine cx (U0 _ _ _ _ (hg _ hE) c1) hE ?_;clear hE;intro w' hE) | (go_at_call 186;refine cx (G4 _ _ _ _ (hg _ hE) c2) hE ?_;clear hE;intro w' hE) | (go_at_call 187;refine cx (R6 _ _ _ _ (hg _ hE) c3) hE ?_;clear hE;intro w' hE) | (go_at_call 188;refine cx (bn4 _ _ _ _ (hg _ hE) c4) hE ?_;clear hE;intro w' hE) | (go_at_call 74;refine cx (bv1 _ _ _ _ (hg _ hE) c5) hE ?_;clear hE;intro w' hE));go_ret;exact⟨d9 Hz.out.symm,hE0.trans hE⟩
end Go.Zz
namespace Go.Zz
open Go.RowKit Go.Proofs
set_option maxHeartbeats 2000000
set_option maxRecDepth 8000
def K3(l:List Int)(a:Nat):Nat→Nat
 | 0=>1
 | k+1=>j3 l (K3 l a k) a
theorem bj1{l:List Int}(h:c9 l=true)(a k:Nat):K3 l a k<2 ^ 24:=by
 cases k with
 | zero=>show 1<_;decide
 | succ k=>exact F5 h _ _
def H8(l:List Int)(a k:Nat):List Nat:=(List.range k).map (fun i=>cnt (K3 l a (i+1)))
theorem c69(l:List Int)(a k:Nat):H8 l a (k+1)=H8 l a k++[cnt (K3 l a (k+1))]:=by unfold H8;rw[List.range_succ,List.map_append];rfl
theorem be3(l:List Int)(a k:Nat):(H8 l a k).length=k:=by simp[H8]
def obF(l:List Int)(a:Nat):Option Nat:=(List.range 31).find? (fun k=>K3 l a k == j4 l)
def obV(l:List Int)(a:Nat):Int:=match obF l a with | some k=>k | none=>-1
def ba1(l:List Int)(a:Nat):Bool:=decide (0≤obV l a)
theorem dg7{l:List Int}{a k:Nat}(hk:k<31)(h:∀j,j<k→(K3 l a j == j4 l)=false)(hp:(K3 l a k == j4 l)=true):obV l a=k:=by unfold obV obF;rw[bx2 hk h hp]
theorem cv2{l:List Int}{a:Nat}(h:∀j,j<31→(K3 l a j == j4 l)=false):obV l a = -1:=by unfold obV obF;rw[bs2 h]
theorem j16(l:List Int)(a:Nat) : -1≤obV l a:=by unfold obV;split<;>omega
theorem b54{l:List Int}{n:Nat}(hs:d8 l (n:Int)=true):n<2 ^ 24∧c9 l=true:=by
 obtain⟨m,hm,h1,h2,hgr⟩:=m3 hs;have e:m=n:=by omega
 subst e;exact⟨h2,hgr⟩
theorem bd1(v:Value)(l:List Int)(n k:Nat)(w:World)(h:c8 w v l)(hs:d8 l (n:Int)=true)(hk:k≤30) :
 Calls Tryz.prog 221 #[.agg #[v],.int .i64 n,.int .i64 k] w fun e w'=>e=.returned (.int .i64 (K3 l n k))∧Ext w w':=by
 obtain⟨wb,Hwb,hE0,hb,hg,hE,Hsz⟩:=j60 28 h;clear h;have hbx:=hb wb hE;obtain⟨h2,hgr⟩:=b54 hs;have Hgr:=Lib.hid hgr;have hin:inB (k:Int) 0 30=true:=b01.2 (by omega);have cW:=fun W=>N9 (k:Int) 0 30 W;rw[hin] at cW;clear hgr hin;go_enter Tryz.func221,Tryz.ntmps221;go_wp2_with fail;rw[←Hwb.out];go_wp2_with (first | (go_at_call 105;refine cx (o7 _ _ _ _ (hg _ hE) (hs)) hE ?_;clear hE;intro w' hE) | (go_at_call 206;refine (cW _).mono ?_;rintro e w' ⟨rfl,rfl⟩));go_loopw [7,18] (fun ss sj wr=>∃j:Nat,j≤k∧sj=.int .i64 j∧ss=.int .i64 (K3 l n j)∧Ext wb wr) (fun _ sj _=>k - (intOf sj).toNat);case atStart=>exact⟨0,by omega,rfl,rfl,hE⟩
 case round =>
  clear hE;obtain⟨j,hj,rfl,rfl,hE⟩:=hrel;have hbx:=hb _ hE;have hM:=bj1 Hgr.out n j;have Hn:Hid (K3 l n (j+1)=j3 l (K3 l n j) n):=Lib.hid rfl;by_cases hlt:j<k
  · have hltI:(j:Int)<(k:Int):=(by omega);obtain⟨M,hMd⟩:∃M,M=K3 l n j:=⟨_,rfl⟩;rw[←hMd] at hM Hn ⊢;clear hMd;go_wp2_with (first | (go_at_call 119;refine cx (H5 _ _ _ _ _ (hg _ hE) (Hgr) (hM) (h2)) hE ?_;clear hE;intro w' hE));go_roundw;(case rel=>exact⟨j+1,by omega,by go_num,by rw[Hn.out],hE⟩);case measure=>(simp[intOf];omega)
  · have hltI:¬(j:Int)<(k:Int):=(by omega);have hjk:j=k:=(by omega);subst hjk;go_wp2_with fail;go_ret;exact⟨rfl,hE0.trans hE⟩
theorem cn3(v:Value)(l:List Int)(n:Nat)(w:World)(h:c8 w v l)(hs:d8 l (n:Int)=true) :
 Calls Tryz.prog 111 #[.agg #[v],.int .i64 n,.int .i64 4] w fun e w'=>∃v',e=.returned v'∧Own 3 w w' v' (d6 (H8 l n 4))∧Ext w w':=by
 obtain⟨wb,Hwb,hE0,hb,hg,hE,Hsz⟩:=j60 28 h;clear h;obtain⟨wc,hwc⟩:∃wc,wc=wb.alloc (.cells #[] 3):=⟨_,rfl⟩;have hO:Own 3 wb wc (.slice (some ⟨wb.heap.size,0,none⟩) 0 0) []:=by rw[hwc];exact q5 (by omega) hE [] rfl
 replace hE:Ext wb wc:=by rw[hwc];exact hE.alloc _
 have Hsz2:Hid (wb.heap.size+1=wc.heap.size):=Lib.hid (by rw[hwc];simp[go_sem]);have Hwc:=Lib.hid hwc;clear hwc;obtain⟨h2,hgr⟩:=b54 hs;have Hgr:=Lib.hid hgr;have hin:inB (4:Int) 0 30=true:=by decide
 have cW:=fun W=>N9 (4:Int) 0 30 W;rw[hin] at cW;have hbx:=hb _ hE;clear hgr hin;go_enter Tryz.func111,Tryz.ntmps111;go_wp2_with fail;rw[←Hwb.out,←Hwc.out];rw[Hsz.out];try rw[Hsz2.out]
 go_wp2_with (first | (go_at_call 105;refine (o7 _ _ _ _ (hg _ hE) hs).mono ?_;rintro e w3 ⟨rfl,hE3⟩) | (go_at_call 206;refine (cW _).mono ?_;rintro e w' ⟨rfl,rfl⟩));go_loopw [7,8] (fun sv sk wr=>∃j:Nat,1≤j∧j≤5∧sk=.int .i64 j∧Own 3 wb wr sv (d6 (H8 l n (j - 1)))∧Ext wb wr) (fun _ sk _=>5 - (intOf sk).toNat);case atStart=>exact⟨1,by omega,by omega,rfl,(hO.ext hE3:Own 3 wb _ _ []),hE.trans hE3⟩
 case round =>
  clear hE hO hE3;rename World=>wr;obtain⟨j,hj1,hj2,rfl,hO,hE⟩:=hrel;have hbx:=hb _ hE;have hln:(d6 (H8 l n (j - 1))).length<17592186044416:=by rw[j8,be3];omega
  by_cases hlt:j≤4
  · have hltI:(j:Int)≤4:=(by omega);have cM:=bd1 v l n j wr (hg _ hE) hs (by omega);have hM:=bj1 Hgr.out n j;have Hn:Hid (H8 l n (j+1 - 1)=H8 l n (j - 1)++[cnt (K3 l n j)]):=Lib.hid (by
     have:=c69 l n (j - 1);rw[show j - 1+1=j by omega] at this;rw[show j+1 - 1=j by omega];exact this)
    obtain⟨M,hMd⟩:∃M,M=K3 l n j:=⟨_,rfl⟩;rw[←hMd] at hM Hn cM;have cB:=fun W=>E0 M hM W;clear hMd;go_wp2_with (first | (go_at_call 221;refine cM.mono ?_;rintro e w3 ⟨rfl,hE3⟩) | (go_at_call 107;refine (cB _).mono ?_;rintro e w' ⟨rfl,rfl⟩) | (at_builtin;refine K4 slI rfl _ _ rfl wb _ _ _ _ (hO.ext hE3) (hE.trans hE3) hln rfl rfl ?_;intro v1 w1 hO1 hE1));go_roundw;(case rel=>exact⟨j+1,by omega,by omega,by go_num,by rw[Hn.out];simpa[J3] using hO1,hE1⟩);case measure=>(simp[intOf];omega)
  · have hltI:¬(j:Int)≤4:=(by omega);have hj5:j=5:=(by omega);subst hj5;go_wp2_with fail;go_ret;exact⟨_,rfl,hO.mono hE0,hE0.trans hE⟩
theorem cl3(v:Value)(l:List Int)(n:Nat)(w:World)(h:c8 w v l)(hs:d8 l (n:Int)=true) :
 Calls Tryz.prog 70 #[.agg #[v],.int .i64 n,.int .i64 4] w fun e w'=>∃v',e=.returned v'∧Own 3 w w' v' (d6 (H8 l n 4))∧Ext w w':=by
 obtain⟨wb,Hwb,hE0,hb,hg,hE,Hsz⟩:=j60 28 h;clear h;obtain⟨wc,hwc⟩:∃wc,wc=wb.alloc (.cells #[] 3):=⟨_,rfl⟩;have hO:Own 3 wb wc (.slice (some ⟨wb.heap.size,0,none⟩) 0 0) []:=by rw[hwc];exact q5 (by omega) hE [] rfl
 replace hE:Ext wb wc:=by rw[hwc];exact hE.alloc _
 have Hsz2:Hid (wb.heap.size+1=wc.heap.size):=Lib.hid (by rw[hwc];simp[go_sem]);have Hwc:=Lib.hid hwc;clear hwc;obtain⟨h2,hgr⟩:=b54 hs;have Hgr:=Lib.hid hgr;have hin:inB (4:Int) 0 30=true:=by decide
 have cW:=fun W=>U8 (4:Int) 0 30 W;rw[hin] at cW;have hbx:=hb _ hE;clear hgr hin;go_enter Tryz.func70,Tryz.ntmps70;go_wp2_with fail;rw[←Hwb.out,←Hwc.out];rw[Hsz.out];try rw[Hsz2.out]
 go_wp2_with (first | (go_at_call 46;refine (l5 _ _ _ _ (hg _ hE) hs).mono ?_;rintro e w3 ⟨rfl,hE3⟩) | (go_at_call 164;refine (cW _).mono ?_;rintro e w' ⟨rfl,rfl⟩));go_loopw [7,8,9] (fun sv ss sk wr=>∃j:Nat,j≤4∧sk=.int .i64 j∧ss=.int .i64 (K3 l n j)∧Own 3 wb wr sv (d6 (H8 l n j))∧Ext wb wr) (fun _ _ sk _=>4 - (intOf sk).toNat);case atStart=>exact⟨0,by omega,rfl,rfl,(hO.ext hE3:Own 3 wb _ _ []),hE.trans hE3⟩
 case round =>
  clear hE hO hE3;rename World=>wr;obtain⟨j,hj2,rfl,rfl,hO,hE⟩:=hrel;have hbx:=hb _ hE;have hln:(d6 (H8 l n j)).length<17592186044416:=by rw[j8,be3];omega
  by_cases hlt:j<4
  · have hltI:(j:Int)<4:=(by omega);have hM:=bj1 Hgr.out n j;have hM1:=bj1 Hgr.out n (j+1);have Hm:Hid (K3 l n (j+1)=j3 l (K3 l n j) n):=Lib.hid rfl;have cS:=E4 v l (K3 l n j) n wr (hg _ hE) Hgr hM h2;have Hn:=Lib.hid (c69 l n j);rw[←Hm.out] at cS;obtain⟨M1,hM1d⟩:∃M,M=K3 l n (j+1):=⟨_,rfl⟩;obtain⟨M,hMd⟩:∃M,M=K3 l n j:=⟨_,rfl⟩;rw[←hMd] at cS ⊢;rw[←hM1d] at hM1 Hn cS;have HM1:=Lib.hid hM1d;have cB:=fun W=>o9 M1 hM1 W;clear hMd hM1d Hm hM;go_wp2_with (first | (go_at_call 49;refine cS.mono ?_;rintro e w3 ⟨rfl,hE3⟩) | (go_at_call 66;refine (cB _).mono ?_;rintro e w' ⟨rfl,rfl⟩) | (at_builtin;refine K4 slI rfl _ _ rfl wb _ _ _ _ (hO.ext hE3) (hE.trans hE3) hln rfl rfl ?_;intro v1 w1 hO1 hE1));go_roundw;(case rel=>exact⟨j+1,by omega,by go_num,by rw[HM1.out],by rw[Hn.out];simpa[J3] using hO1,hE1⟩);case measure=>(simp[intOf];omega)
  · have hltI:¬(j:Int)<4:=(by omega);have hj5:j=4:=(by omega);subst hj5;go_wp2_with fail;go_ret;exact⟨_,rfl,hO.mono hE0,hE0.trans hE⟩
end Go.Zz
namespace Go.Zz
open Go.RowKit Go.Proofs
set_option maxHeartbeats 2000000
set_option maxRecDepth 8000
theorem c17(v:Value)(l:List Int)(n:Nat)(w:World)(h:c8 w v l)(hs:d8 l (n:Int)=true) :
 Calls Tryz.prog 227 #[.agg #[v],.int .i64 n] w fun e w'=>e=.returned (.int .i64 (obV l n))∧Ext w w':=by
 obtain⟨wb,Hwb,hE0,hb,hg,hE,Hsz⟩:=j60 28 h;clear h;obtain⟨h2,hgr⟩:=b54 hs;have Hgr:=Lib.hid hgr;clear hgr;go_enter Tryz.func227,Tryz.ntmps227;go_wp2_with fail;rw[←Hwb.out];go_loopw [5] (fun sk wr=>∃k:Nat,k≤31∧sk=.int .i64 k∧Ext wb wr∧Hid (∀j,j<k→(K3 l n j == j4 l)=false)) (fun sk _=>31 - (intOf sk).toNat);case atStart=>exact⟨0,by omega,rfl,hE,Lib.hid fun j hj=>absurd hj (by omega)⟩
 case round =>
  clear hE;rename World=>wr;obtain⟨k,hk,rfl,hE,HN⟩:=hrel;have hbx:=hb _ hE;by_cases hlt:k≤30
  · have hltI:(k:Int)≤30:=(by omega);go_wp2_with (go_at_call 105;refine (o7 _ _ _ _ (hg _ hE) hs).mono ?_;rintro e w3 ⟨rfl,hE3⟩);have hE03:=hE.trans hE3;have hbU:=fun U=>hb _ (hE03.trans (b9 w3 U));have cM:=fun U=>bd1 v l n k (Lat w3 U) (hg _ (hE03.trans (b9 w3 U))) hs (by omega);have cF:=fun U=>F2 v l (Lat w3 U) (hg _ (hE03.trans (b9 w3 U))) Hgr;obtain⟨M,hMd⟩:∃M,M=K3 l n k:=⟨_,rfl⟩;obtain⟨F,hFd⟩:∃M,M=j4 l:=⟨_,rfl⟩;simp only[←hMd] at cM;simp only[←hFd] at cF;cases hq:(M == F)
    · have hqI:((M:Int) == (F:Int))=false:=(by rw[beq_eq_false_iff_ne] at hq ⊢;omega);have Hq:Hid ((K3 l n k == j4 l)=false):=Lib.hid (by rw[←hMd,←hFd];exact hq);clear hq hMd hFd hE hE3;have hE:=Ext.refl w3;(refine d0 (w3) (by kernel_rfl) (by kernel_rfl) hE ?_);(repeat (go_big_quiet_step (first | (go_at_call 221;with_reducible exact Calls.lat (cM _)) | (go_at_call 215;with_reducible exact Calls.lat (cF _)))));(refine wpQuiet_nil ?_);(intro W hE');(replace hE:=l7 hE');(clear hE');go_wp2_with fail;go_roundw;(case rel=>exact⟨k+1,by omega,by go_num,hE03.trans hE,Lib.hid fun j hj=>by by_cases q:j=k;(rw[q];exact Hq.out);exact HN.out j (by omega)⟩);case measure=>(simp[intOf];omega)
    · have hqI:((M:Int) == (F:Int))=true:=(by rw[beq_iff_eq] at hq ⊢;omega);have Hq:Hid (obV l n=(k:Int)):=Lib.hid (dg7 (by omega) HN.out (by rw[←hMd,←hFd];exact hq));clear hq hMd hFd hE hE3;have hE:=Ext.refl w3;(refine d0 (w3) (by kernel_rfl) (by kernel_rfl) hE ?_);(repeat (go_big_quiet_step (first | (go_at_call 221;with_reducible exact Calls.lat (cM _)) | (go_at_call 215;with_reducible exact Calls.lat (cF _)))));(refine wpQuiet_nil ?_);(intro W hE');(replace hE:=l7 hE');(clear hE');go_wp2_with fail;go_ret;exact⟨m8 Hq.out.symm,hE0.trans (hE03.trans hE)⟩
  · have hltI:¬(k:Int)≤30:=(by omega);have Hq:=Lib.hid (cv2 (l:=l) (a:=n) fun j hj=>HN.out j (by omega));go_wp2_with fail;go_ret;exact⟨m8 Hq.out.symm,hE0.trans hE⟩
theorem d03(v:Value)(l:List Int)(n:Nat)(w:World)(h:c8 w v l)(hs:d8 l (n:Int)=true) :
 Calls Tryz.prog 117 #[.agg #[v],.int .i64 n] w fun e w'=>e=.returned (.bool (ba1 l n))∧Ext w w':=by
 obtain⟨wb,Hwb,hE0,hb,hg,hE,Hsz⟩:=j60 28 h;clear h;have hbx:=hb wb hE;have cO:=c17 v l n wb (hg _ hE) hs;have hbd:=j16 l n;have Hq:Hid ((obV l n != -1)=ba1 l n):=Lib.hid (by
  unfold ba1;rw[Bool.eq_iff_iff,bne_iff_ne,decide_eq_true_iff];omega)
 obtain⟨O,hO⟩:∃O,O=obV l n:=⟨_,rfl⟩;rw[←hO] at cO Hq;clear hO hbd;go_enter Tryz.func117,Tryz.ntmps117;go_wp2_with fail;rw[←Hwb.out];go_wp2_with (go_at_call 227;refine cO.mono ?_;rintro e w3 ⟨rfl,hE3⟩);go_ret;exact⟨l9 Hq.out,hE0.trans hE3⟩
theorem bz4(v:Value)(l:List Int)(n:Nat)(w:World)(h:c8 w v l)(hs:d8 l (n:Int)=true) :
 Calls Tryz.prog 193 #[.agg #[v],.int .i64 n] w fun e w'=>e=.returned (.int .i64 (obV l n))∧Ext w w':=by
 obtain⟨wb,Hwb,hE0,hb,hg,hE,Hsz⟩:=j60 28 h;clear h;have hbx:=hb wb hE;obtain⟨h2,hgr⟩:=b54 hs;have Hgr:=Lib.hid hgr;have hob:=l8 hgr;have hs1:=p0 (n:=ord l) (by omega);have hfl:((pw (ord l):Nat):Int) - 1=(j4 l:Int):=by unfold j4;have:=R5 (ord l);omega
 have hp2:=b04 hob.2;have hfw:IntKind.i64.wrap (((pw (ord l):Nat):Int) - 1)=(j4 l:Int):=by rw[hfl];exact IntWalk.i64_in _ (by unfold j4;omega)
 obtain⟨F,hFd⟩:∃M,M=j4 l:=⟨_,rfl⟩;rw[←hFd] at hfw;have HF:=Lib.hid hFd;clear hgr hfl hFd;go_enter Tryz.func193,Tryz.ntmps193;go_wp2_with fail;rw[←Hwb.out];go_wp2_with (first | (go_at_call 46;refine cx (l5 _ _ _ _ (hg _ hE) (hs)) hE ?_;clear hE;intro w' hE));go_loopw [5,6] (fun ss sk wr=>∃k:Nat,k≤31∧sk=.int .i64 k∧ss=.int .i64 (K3 l n k)∧Ext wb wr∧Hid (∀j,j<k→(K3 l n j == j4 l)=false)) (fun _ sk _=>31 - (intOf sk).toNat);case atStart=>exact⟨0,by omega,rfl,rfl,hE,Lib.hid fun j hj=>absurd hj (by omega)⟩
 case round =>
  clear hE;rename World=>wr;obtain⟨k,hk,rfl,rfl,hE,HN⟩:=hrel;have hbx:=hb _ hE;by_cases hlt:k≤30
  · have hltI:(k:Int)≤30:=(by omega);have hM:=bj1 Hgr.out n k;have Hm:Hid (K3 l n (k+1)=j3 l (K3 l n k) n):=Lib.hid rfl;obtain⟨M,hMd⟩:∃M,M=K3 l n k:=⟨_,rfl⟩;rw[←hMd] at hM Hm ⊢;cases hq:(M == F)
    · have hqI:((M:Int) == (F:Int))=false:=(by rw[beq_eq_false_iff_ne] at hq ⊢;omega);have Hq:Hid ((K3 l n k == j4 l)=false):=Lib.hid (by rw[←hMd,←HF.out];exact hq);clear hq hMd;go_wp2_with (first | (go_at_call 43;refine cx (m4 _ _ _ (hg _ hE) (Hgr)) hE ?_;clear hE;intro w' hE) | (go_at_call 49;refine cx (E4 _ _ _ _ _ (hg _ hE) (Hgr) (hM) (h2)) hE ?_;clear hE;intro w' hE));go_roundw;(case rel=>exact⟨k+1,by omega,by go_num,by rw[Hm.out],hE,Lib.hid fun j hj=>by by_cases q:j=k;(rw[q];exact Hq.out);exact HN.out j (by omega)⟩);case measure=>(simp[intOf];omega)
    · have hqI:((M:Int) == (F:Int))=true:=(by rw[beq_iff_eq] at hq ⊢;omega);have Hq:Hid (obV l n=(k:Int)):=Lib.hid (dg7 (by omega) HN.out (by rw[←hMd,←HF.out];exact hq));clear hq hMd;go_wp2_with (first | (go_at_call 43;refine cx (m4 _ _ _ (hg _ hE) (Hgr)) hE ?_;clear hE;intro w' hE));go_ret;exact⟨m8 Hq.out.symm,hE0.trans hE⟩
  · have hltI:¬(k:Int)≤30:=(by omega);have Hq:=Lib.hid (cv2 (l:=l) (a:=n) fun j hj=>HN.out j (by omega));go_wp2_with fail;go_ret;exact⟨m8 Hq.out.symm,hE0.trans hE⟩
theorem cx1(v:Value)(l:List Int)(n:Nat)(w:World)(h:c8 w v l)(hs:d8 l (n:Int)=true) :
 Calls Tryz.prog 76 #[.agg #[v],.int .i64 n] w fun e w'=>e=.returned (.bool (ba1 l n))∧Ext w w':=by
 obtain⟨wb,Hwb,hE0,hb,hg,hE,Hsz⟩:=j60 28 h;clear h;have hbx:=hb wb hE;have cO:=bz4 v l n wb (hg _ hE) hs;have Hq:Hid (decide (0≤obV l n)=ba1 l n):=Lib.hid rfl;obtain⟨O,hO⟩:∃O,O=obV l n:=⟨_,rfl⟩;rw[←hO] at cO Hq;clear hO;go_enter Tryz.func76,Tryz.ntmps76;go_wp2_with fail;rw[←Hwb.out];go_wp2_with (go_at_call 193;refine cO.mono ?_;rintro e w3 ⟨rfl,hE3⟩);go_ret;exact⟨l9 Hq.out,hE0.trans hE3⟩
end Go.Zz
namespace Go.Zz
open Go.RowKit Go.Proofs
set_option linter.unusedVariables false
def ptF(l:List Int)(x d:Nat):Nat→Nat
 | 0=>x
 | j+1=>j9 l (ptF l x d j) d
theorem bj6{l:List Int}(h:c9 l=true){x d:Nat}(hx:x<ord l):∀j,ptF l x d j<ord l
 | 0=>hx
 | j+1=>E9 l (m0 h) _ _
theorem c44{l:List Int}(h:c9 l=true){x d:Nat}(hx:x<ord l):∀i j,ptF l x d i=ptF l x d (i+j)→ptF l x d j=x
 | 0,j,e=>by rw[Nat.zero_add] at e;exact e.symm
 | i+1,j,e=>by
  refine c44 h hx i j ?_
  rw[show i+1+j=(i+j)+1 by omega] at e
  have e':j9 l d (ptF l x d i)=j9 l d (ptF l x d (i+j)):=by rw[C8 l d,C8 l d];exact e
  exact S6 (m0 h) (bj6 h hx _) (bj6 h hx _) e'
def Run(l:List Int)(a x d c:Nat):Prop:=∀i,1≤i→i<c→ptF l x d i≠x∧a.testBit (ptF l x d i)=true
theorem Run.ne{l:List Int}(h:c9 l=true){a x d c:Nat}(hx:x<ord l)(hR:Run l a x d c){i j:Nat}(hij:i<j)(hj:j<c):ptF l x d i≠ptF l x d j:=fun e=>by
 have:=c44 h hx i (j - i) (by rw[show i+(j - i)=j by omega];exact e)
 exact (hR (j - i) (by omega) (by omega)).1 this
theorem Run.le{l:List Int}(h:c9 l=true){a x d c:Nat}(hx:x<ord l)(hR:Run l a x d c):c≤24:=by
 have hn:((List.range c).map (ptF l x d)).Nodup:=by
  unfold List.Nodup;rw[List.pairwise_map];refine List.Pairwise.imp_of_mem ?_ List.pairwise_lt_range;intro i j hi hj hij;exact Run.ne h hx hR hij (List.mem_range.1 hj)
 have hb:=cp4 hn (fun y hy=>by
  rw[List.mem_map] at hy
  obtain⟨j,-,rfl⟩:=hy
  exact Nat.lt_of_lt_of_le (bj6 h hx j) (l8 h).2)
 have:=p7 (N3 ((List.range c).map (ptF l x d)));rw[hb,List.length_map,List.length_range] at this;exact this
def cd0(l:List Int)(a x d:Nat):Nat:=match (List.range 24).find? (fun j=>(ptF l x d (j+1) == x) || !(a.testBit (ptF l x d (j+1)))) with | some j=>j+1 | none=>0
set_option linter.unusedVariables false
theorem cd1{l:List Int}(h:c9 l=true){a x d c:Nat}(hx:x<ord l)(hc:1≤c)(hR:Run l a x d c)(hs:ptF l x d c=x∨a.testBit (ptF l x d c)=false):cd0 l a x d=c:=by
 have hle:=Run.le h hx hR;have e:(List.range 24).find? (fun j=>(ptF l x d (j+1) == x) || !(a.testBit (ptF l x d (j+1))))=some (c - 1):=by
  refine bx2 (by omega) (fun j hj=>?_) ?_
  · obtain⟨h1,h2⟩:=hR (j+1) (by omega) (by omega);rw[h2,beq_eq_false_iff_ne.2 h1];rfl
  · rw[show c - 1+1=c by omega];rcases hs with hs | hs
    · rw[hs];simp
    · rw[hs];simp
 unfold cd0;rw[e];show c - 1+1=c;omega
theorem Run.one(l:List Int)(a x d:Nat):Run l a x d 1:=fun i h1 h2=>by omega
theorem Run.next{l:List Int}{a x d c:Nat}(hR:Run l a x d c)(h1:ptF l x d c≠x)(h2:a.testBit (ptF l x d c)=true):Run l a x d (c+1):=fun i hi1 hi2=>by
 by_cases q:i=c
 · subst q;exact⟨h1,h2⟩
 · exact hR i hi1 (by omega)
def b05(l:List Int)(x d:Nat):Nat→Nat
 | 0=>0
 | c+1=>b05 l x d c ||| 2 ^ ptF l x d c
theorem c50{l:List Int}(h:c9 l=true){x d:Nat}(hx:x<ord l):∀c,b05 l x d c<2 ^ 24
 | 0=>by show 0<_;decide
 | c+1=>Nat.or_lt_two_pow (c50 h hx c) (Nat.pow_lt_pow_right (by omega) (Nat.lt_of_lt_of_le (bj6 h hx c) (l8 h).2))
theorem bv5(l:List Int)(x d y:Nat):∀c,(b05 l x d c).testBit y=true↔∃i,i<c∧ptF l x d i=y
 | 0=>by simp[b05]
 | c+1=>by
  show (b05 l x d c ||| 2 ^ ptF l x d c).testBit y=true↔_
  rw[Nat.testBit_or,Bool.or_eq_true,bv5 l x d y c,Nat.testBit_two_pow,decide_eq_true_iff]
  constructor
  · rintro (⟨i,h1,h2⟩ | h)
    · exact⟨i,by omega,h2⟩
    · exact⟨c,by omega,h⟩
  · rintro⟨i,h1,h2⟩
    by_cases q:i=c
    · subst q;exact Or.inr h2
    · exact Or.inl ⟨i,by omega,h2⟩
theorem di4{l:List Int}(h:c9 l=true){a x d c:Nat}(hx:x<ord l)(hc:1≤c)(hR:Run l a x d c)(hs:(b05 l x d c).testBit (ptF l x d c)=true):ptF l x d c=x:=by
 obtain⟨i,h1,h2⟩:=(bv5 l x d _ c).1 hs;by_cases q:i=0
 · subst q;exact h2.symm
 · have:=c44 h hx i (c - i) (by rw[show i+(c - i)=c by omega];exact h2);exact absurd this (hR (c - i) (by omega) (by omega)).1
theorem dq0{l:List Int}{x d c:Nat}(hc:1≤c)(hs:(b05 l x d c).testBit (ptF l x d c)=false):ptF l x d c≠x:=fun e=>by
 have:=(bv5 l x d (ptF l x d c) c).2 ⟨0,by omega,e.symm⟩
 rw[this] at hs;cases hs
def lpD(l:List Int)(a x m k:Nat):Nat:=(List.range k).foldl (fun b d=>max b (cd0 l a x d)) m
theorem c35(l:List Int)(a x m k:Nat):lpD l a x m (k+1)=max (lpD l a x m k) (cd0 l a x k):=by unfold lpD;rw[List.range_succ,List.foldl_append];rfl
def lpX(l:List Int)(a:Nat)(L:List Nat):Nat:=L.foldl (fun m x=>lpD l a x m (ord l)) 0
theorem dn5(l:List Int)(a:Nat)(L:List Nat)(x:Nat):lpX l a (L++[x])=lpD l a x (lpX l a L) (ord l):=by unfold lpX;rw[List.foldl_append];rfl
def lpF(l:List Int)(a:Nat):Nat:=lpX l a (j1 a)
theorem dx3(l:List Int)(a x d:Nat):cd0 l a x d≤24:=by
 unfold cd0;split
 · rename_i j hj;have:=List.mem_of_find?_eq_some hj;rw[List.mem_range] at this;omega
 · omega
theorem c75(l:List Int)(a x m:Nat)(hm:m≤24):∀k,lpD l a x m k≤24
 | 0=>hm
 | k+1=>by rw[c35];have:=c75 l a x m hm k;have:=dx3 l a x k;omega
theorem c36{l:List Int}{a:Nat}{L:List Nat}{k:Nat}(h:k<L.length):lpX l a (L.take (k+1))=lpD l a (d5 L k) (lpX l a (L.take k)) (ord l):=by
 rw[List.take_add_one,show L[k]?.toList=[d5 L k] by simp[d5,List.getD,h],dn5]
theorem bt6(l:List Int)(a:Nat)(L:List Nat):∀k,lpX l a (L.take k)≤24
 | 0=>by simp[lpX]
 | k+1=>by
  by_cases h:k<L.length
  · rw[c36 h];exact c75 _ _ _ _ (bt6 l a L k) _
  · rw[List.take_of_length_le (by omega),←List.take_of_length_le (l:=L) (i:=k) (by omega)];exact bt6 l a L k
end Go.Zz
