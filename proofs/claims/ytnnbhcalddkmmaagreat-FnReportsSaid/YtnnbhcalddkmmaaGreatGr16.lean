/- Longest sequences no part of which has the sum zero: the reference. -/
import Derived.Test.YtnnbhcalddkmmaaGreatGr15
set_option linter.unusedSimpArgs false
set_option linter.unusedVariables false
set_option linter.unnecessarySimpa false
set_option maxHeartbeats 2000000
set_option maxRecDepth 20000
namespace Go.Zz
open Go.RowKit Go.Proofs
def LiP(w0:World)(Y:List Nat)(s:Value)(wx:World):Prop:=∃ao c,s=.slice ao Y.length c∧c9 wx (.slice ao Y.length c) (b9 Y)∧Ext w0 wx
theorem jn3(v:Value)(l:List Int)(Hgr:Hid (j1 l=true)) :
 ∀(f:Nat) (X:List Nat) (S m:Nat) (vX:Value) (w:World),c9 w v l->c9 w vX (b9 X)->S<2 ^ ord l->S.testBit 0=false->m<=ord l->ord l<cnt S+f->X.length<=cnt S->(∀x∈X,x<ord l) ->
 Calls Tryz.prog 180 #[.agg #[v],vX,.int .i64 S,.int .i64 m] w fun e w'=>∃ao c,e=.returned (.slice ao (zfS l f X S m).length c)∧c9 w' (.slice ao (zfS l f X S m).length c) (b9 (zfS l f X S m))∧Ext w w':=by
 intro f;induction f with
 | zero=>intro X S m vX w h hX hS h0 hm hf;have:=b77 Hgr.out hS;omega
 | succ f ih =>
  intro X S m vX w h hX hS h0 hm hf hXl hXo;have hob:=m8 Hgr.out;have hp24:=C4 Hgr.out;have hS24:S<2 ^ 24:=nlt hS hp24;have hcS:=r9 S;obtain⟨aoX,cX,-,rfl,-,-,-⟩:=hX.op;rw[j2] at hX ⊢;obtain⟨wb,Hwb,hE0,hb,hg,hE,Hsz⟩:=ju3 28 h;clear h;have HX:=zh (fun W (hW:Ext wb W)=>hX.ext (hE0.trans hW));have Hih:=zh ih;clear ih hX;have He:=zh (jp1 l f X S m);have Hst:=zh (j83 l f X S m);go_in;go_wp2_with fail;rw[<-Hwb.out];go_loopw [9,10] (fun bv xv wr=>∃(k:Nat) (ao:Option Addr) (c:Nat),m<=k∧k<=ord l∧xv=.int .i64 k∧bv=.slice ao (zfK l f X S m k).length c∧c9 wr (.slice ao (zfK l f X S m k).length c) (b9 (zfK l f X S m k))∧Ext wb wr) (fun _ xv _=>ord l - (intOf xv).toNat);case atStart=>exact⟨m,aoX,cX,Nat.le_refl _,hm,rfl,by rw[Hst.out],by rw[Hst.out];exact HX.out _ hE,hE⟩
  case round =>
   clear hE;obtain⟨k,aoB,cB,hk1,hk2,rfl,rfl,hIB,hE⟩:=hrel;have cO:=o5 v l wr (hg _ hE) Hgr;have HIB:=zh hIB;have hlB:(zfK l f X S m k).length<=17592186044416:=(by obtain⟨_,_,_,_,h',_⟩:=hIB;simpa[j2] using h');have Hno:=zh (fun h=>jt4 (l:=l) (f:=f) (X:=X) (S:=S) (m:=m) (k:=k) h);have Hmo:=zh (fun h=>jg8 (l:=l) (f:=f) (X:=X) (S:=S) (m:=m) (k:=k) hk1 h);have Hle:=zh (fun h=>jg7 (l:=l) (f:=f) (X:=X) (S:=S) (m:=m) (k:=k) hk1 h);clear hIB;by_cases hlt:k<ord l
   . have hk24:k<24:=(by omega);have hN:=bj0 Hgr.out hS hlt;have hNc:=b71 Hgr.out hS h0 hlt;have hN24:nxS l S k<2 ^ 24:=nlt hN hp24;have hsh:=G0 Hgr.out S k;have q1:=p6 (n:=k) om;have q2:ior (S:Int) (j6 l S k:Int)=((S ||| j6 l S k:Nat):Int):=M4 om om;have q3:ior ((S ||| j6 l S k:Nat):Int) ((pw k:Nat):Int)=((nxS l S k:Nat):Int):=F6 (Nat.or_lt_two_pow hS24 hsh) hk24;obtain⟨N,hNd⟩:=nq (nxS l S k);rw[<-hNd] at hN hNc hN24 q3 Hno Hmo Hle;have q4:=Q6 (a:=N) om;have cS:=fun W (hW:Ext wb W)=>F5 v l S k W (hg _ hW) Hgr hS24 hk24;have HNd:=zh hNd;clear hNd;go_wp2_with (go_at_call 43;refine cO.mono ?_;rintro e1 w1 ⟨rfl,hE1⟩);have hE01:=hE.trans hE1;have hbx:=fun U=>hb _ (hE01.trans (d5 w1 U));have hEq:=hE01;clear hE hE01;have hE:=er w1;(refine wl hE ?_);(repeat (go_big_quiet_step (first | (go_at_call 166;exact Calls.lat (cS _ (hEq.trans (d5 w1 _)))))));(refine zd ?_);(clear hE);(intro W hE);rename World=>w2;have hE2:=hEq.trans hE;have hIB2:=HIB.out.ext (hE1.trans hE);clear hbx cS;cases ht:N.testBit 0
     . have hbit:(((N % 2:Nat):Int) == 1)=false:=by
        rw[Nat.testBit_zero,decide_eq_false_iff_not] at ht;rw[beq_eq_false_iff_ne];omega
       have hcR:=fun W (hW:Ext wb W) vN (hI:c9 W vN (b9 (X++[k])))=>Hih.out (X++[k]) N k vN W (hg _ hW) hI hN ht om om (by simp;omega) (by intro y hy;rw[List.mem_append,List.mem_singleton] at hy;rcases hy with hy | rfl;exact hXo y hy;exact hlt)
       obtain⟨Y,hY⟩:=nq (zfS l f (X++[k]) N k)
       have hYl:Y.length<=24:=by rw[hY];exact (j84 Hgr.out f (X++[k]) N k hN ht (by intro y hy;rw[List.mem_append,List.mem_singleton] at hy;rcases hy with hy | rfl;exact hXo y hy;exact hlt) (by simp;omega)).2
       have hMo:=zh (Hmo.out ht)
       have hLe:=zh (Hle.out ht)
       rw[<-hY] at hcR hMo hLe
       have HXw:=zh (fun W (hW:Ext w2 W)=>HX.out W (hE2.trans hW))
       have hln:(b9 X).length+[(k:Int)].length<=17592186044416:=by rw[j2];simp;omega
       have hb2:=fun W (hW:Ext w2 W)=>hb W (hE2.trans hW)
       have hcR2:=fun W (hW:Ext w2 W)=>hcR W (hE2.trans hW)
       clear hY ht hcR
       have hEz:=hE
       clear hE
       have hE:=er w2
       have hcl:b9 (X++[k])=b9 X++[(k:Int)]:=by simp[b9]
       rw[hcl] at hcR2
       have Hcl:=zh hcl
       clear hcl
       go_upto_region 7 with fail
       go_cut [12] (fun s12 wx=>LiP w2 Y s12 wx)
       case first =>
        (first | (go_region_held3 (fun W=>Ext w2 W∧W.cell? ⟨w.heap.size,0,none⟩=some v) (exact⟨xq,hb2 _ xq⟩) (first | (go_at_call 180;have hDi:=hOD;(with_reducible refine Calls.mono (hcR2 _ xq _ (J3.own hDi (er _)).ints) ?_);rintro eF wF ⟨aoY,cY,rfl,hIY,hXF⟩;have hHF:=Ext.trans (a:=w2) xq hXF) | (have hOq:=hOC;refine q9 slI rfl _ _ rfl w2 w2 _ _ (b9 X) [(k:Int)] (Or.inr (by first | exact hOC | exact hOC.alloc _ | exact (hOC.alloc _).drew)) (Blk.ints1 (T:=3) zq1) xq hln rfl rfl ?_;intro vD wD hOD hXD hTD) | (refine P0 slI rfl _ _ rfl _ _ (b9 X) rfl rfl zq0 (HXw.out _ xq) w2 (by first | exact Nat.le_refl _ | omega | (simp;omega)) xq ?_;intro aoC cC wC hOC hZC hEC;have hXC:=Ext.trans (a:=w2) xq hEC))) | (fail "the region"));all_goals (go_wp2_with fail;go_meet;exact⟨aoY,cY,rfl,hIY,hHF⟩)
       case rest =>
        obtain⟨aoY,cY,rfl,hIY,hEN⟩:=hcut;have hEf:=hE2.trans hEN;by_cases hq:(zfK l f X S m k).length<Y.length
        . have Hn:=zh (hMo.out hq);have hqI:(((zfK l f X S m k).length:Nat):Int)<((Y.length:Nat):Int):=om;clear hq;go_wp2_with fail;go_roundw;(case rel=>exact⟨k+1,aoY,cY,om,om,zg,by rw[Hn.out],by rw[Hn.out];exact hIY,hEf⟩);case measure=>exact zm1
        . have Hn:=zh (hLe.out hq);have hqI:¬(((zfK l f X S m k).length:Nat):Int)<((Y.length:Nat):Int):=om;clear hq;go_wp2_with fail;go_roundw;(case rel=>exact⟨k+1,aoB,cB,om,om,zg,by rw[Hn.out],by rw[Hn.out];exact hIB2.ext hEN,hEf⟩);case measure=>exact zm1
     . have hbit:(((N % 2:Nat):Int) == 1)=true:=by
        rw[Nat.testBit_zero,decide_eq_true_iff] at ht;rw[ht];rfl
       have Hn:=zh (Hno.out ht)
       clear ht
       go_wp2_with fail
       go_roundw
       case rel=>exact⟨k+1,aoB,cB,om,om,zg,by rw[Hn.out],by rw[Hn.out];exact hIB2,hE2⟩
       case measure=>exact zm1
   . have hkl:k=ord l:=(by omega);have Hn:=zh (show zfS l (f+1) X S m=zfK l f X S m k by rw[He.out,hkl]);clear hkl;go_wp2_with (go_at_call 43;refine cO.mono ?_;rintro e1 w1 ⟨rfl,hE1⟩);go_ret;exact⟨aoB,cB,by rw[Hn.out];rfl,by rw[Hn.out];exact HIB.out.ext hE1,hE0.trans (hE.trans hE1)⟩
theorem bx8(v:Value)(l:List Int)(w:World)(h:c9 w v l) :
 Calls Tryz.prog 61 #[.agg #[v]] w fun e w'=>∃ao c,e=.returned (.tuple #[.slice ao (lzL l).length c,.bool (lzB l)])∧c9 w' (.slice ao (lzL l).length c) (b9 (lzL l))∧Ext w w':=by
 obtain⟨wb,Hwb,hE0,hb,hg,hE,Hsz⟩:=ju3 28 h;clear h;have hbx:=hb wb hE;have cG:=A3 v l wb (hg _ hE);cases hgr:j1 l
 . have hB:lzB l=false:=(by unfold lzB;rw[hgr];rfl);have Hs:=zh (And.intro hB (d41 hB));rw[hgr] at cG;clear hB;go_in;go_wp2_with fail;rw[<-Hwb.out];refine cG.mono ?_;rintro e w1 ⟨rfl,hE1⟩;go_wp2_with fail;have hEf:=hE0.trans hE1;exact bodyPost_ret (v:=.tuple #[.slice (some ⟨w1.heap.size,0,none⟩) 0 0,.bool false]) (by simp[results,Tryz.results61,go_sem]) rfl ⟨_,_,by rw[Hs.out.1,Hs.out.2];rfl,by rw[Hs.out.2];exact (m7 (TI:=3) (n:=0) om hEf (b9 []) rfl).ints,Ext.alloc hEf _⟩
 rw[hgr] at cG;have Hgr:=zh hgr;have hob:=m8 hgr;have cO:=fun W (hW:Ext wb W)=>o5 v l W (hg _ hW) Hgr;by_cases hm:ord l<=9;rotate_left
 . have hB:lzB l=false:=(by unfold lzB;rw[hgr];simpa using hm);have Hs:=zh (And.intro hB (d41 hB));clear hB;go_in;go_wp2_with fail;rw[<-Hwb.out];refine cG.mono ?_;rintro e w1 ⟨rfl,hE1⟩;have hb1:=hb w1 hE1;go_wp2_with (refine (cO _ hE1).mono ?_;rintro e w2 ⟨rfl,hE2⟩);have hEf:=hE0.trans (hE1.trans hE2);exact bodyPost_ret (v:=.tuple #[.slice (some ⟨w2.heap.size,0,none⟩) 0 0,.bool false]) (by simp[results,Tryz.results61,go_sem]) rfl ⟨_,_,by rw[Hs.out.1,Hs.out.2];rfl,by rw[Hs.out.2];exact (m7 (TI:=3) (n:=0) om hEf (b9 []) rfl).ints,Ext.alloc hEf _⟩
 have hB:lzB l=true:=by unfold lzB;rw[hgr];simpa using hm
 have Hs:=zh (And.intro hB (j29 hB));have cF:=fun W (hW:Ext wb W) vN (hI:c9 W vN (b9 []))=>jn3 v l Hgr (ord l+1) [] 0 1 vN W (hg W hW) hI (Nat.two_pow_pos _) zm om (by simp[W7]) zm zm;obtain⟨Z,hZ⟩:=nq (zfS l (ord l+1) [] 0 1);rw[<-hZ] at cF Hs;clear hB hgr hZ;go_in;go_wp2_with fail;rw[<-Hwb.out];refine cG.mono ?_;rintro e w1 ⟨rfl,hE1⟩;have hb1:=hb w1 hE1;go_wp2_with (go_at_call 43;refine (cO _ hE1).mono ?_;rintro e w2 ⟨rfl,hE2⟩;have hE12:=hE1.trans hE2;have hb2:=hb w2 hE12);have hO:Own 3 w2 (w2.alloc (.cells #[] 3)) (.slice (some ⟨w2.heap.size,0,none⟩) 0 0) (b9 []):=m7 (TI:=3) (n:=0) om (er w2) (b9 []) rfl;have hE3:=hE12.trans ((er w2).alloc (.cells #[] 3));refine (cF _ hE3 _ hO.ints).mono ?_;rintro e w3 ⟨aoZ,cZ,rfl,hIZ,hE4⟩;go_wp2_with fail;exact bodyPost_ret (v:=.tuple #[.slice aoZ Z.length cZ,.bool true]) (by simp[results,Tryz.results61,go_sem]) rfl ⟨_,_,by rw[Hs.out.1,Hs.out.2],by rw[Hs.out.2];exact hIZ,hE0.trans (hE3.trans hE4)⟩
theorem c9.fw{w w':World}{v:Value}{l:List Int}{b:Nat}{T:TypeId}{ao:Option Addr}{n c:Nat}(h:c9 w v l)(hB:Blk w b T #[.slice ao n c])(hF:Fw (fun k=>k=b) w w'):c9 w' v l:=by
 obtain⟨a,k,rfl,h1,h2,h3⟩:=h;refine⟨a,k,rfl,h1,h2,fun i hi=>?_⟩;obtain⟨p,rfl,hc⟩:=h3 i hi;refine⟨p,rfl,?_⟩;have hlt:=World.block_lt_of_cell? w _ hc;have hne:(p.add i).block≠b:=fun e=>by
  have hB':w.heap[b]?=some (.cells #[.slice ao n c] T (0,0)):=hB
  have h0:=hc
  unfold World.cell? at h0
  rw[e,hB'] at h0
  simp only at h0
  split at h0
  . cases h0
  . cases hq:(p.add i).off with
    | zero=>rw[hq] at h0;simp at h0
    | succ j=>rw[hq] at h0;simp at h0
 rw[World.cell?_of_block (w:=w) (hF.block _ hlt hne)];exact hc
def Bx(b:Nat)(k:Nat):Prop:=k=b
theorem j77(X B:List Nat)(S:Int)(aoX aoB:Option Addr)(cX cB bB:Nat)(w:World)(hB:Blk w bB 26 #[.slice aoB B.length cB])(hX:X.length<=24)(hBl:B.length<=24) :
 Calls Tryz.prog 248 #[.slice aoX X.length cX,.int .i64 S,.pointer (some ⟨bB,0,none⟩)] w fun e w'=>e=.returned (.tuple #[])∧Blk w' bB 26 #[if B.length<X.length then .slice aoX X.length cX else .slice aoB B.length cB]∧Fw (Bx bB) w w':=by
 have k0:=hB.cell (i:=0) (v:=.slice aoB B.length cB) rfl;have f0:=hB.free 0;by_cases hq:B.length<X.length
 . have hB2:Blk (w.setCell ⟨bB,0,none⟩ (.slice aoX X.length cX)) bB 26 #[.slice aoX X.length cX]:=hB.set 0 _;have hF:=cl5 (S:=Bx bB) rfl w 0 (.slice aoX X.length cX);have hqI:((B.length:Nat):Int)<((X.length:Nat):Int):=om;have Hq:=zh hq;clear hB hq;go_in;go_wp2_with fail;go_end0;exact⟨rfl,hB2,hF⟩
 . have hqI:¬((B.length:Nat):Int)<((X.length:Nat):Int):=(by omega);have Hq:=zh hq;clear hq;go_in;go_wp2_with fail;go_end0;exact⟨rfl,hB,Fw.refl _ _⟩
def frm(X:List Nat):Nat:=if X.length=0 then 1 else d8 X (X.length - 1)
theorem da2(X:List Nat)(k:Nat):frm (X++[k])=k:=by
 unfold frm;simp[d8,List.getD]
theorem j81{l:List Int}(hg:j1 l=true)(f:Nat)(X:List Nat)(S m:Nat)(b:List Nat)(hS:S<2 ^ ord l)(h0:S.testBit 0=false)(hX:∀x∈X,x<ord l)(hl:X.length<=cnt S)(hb:b.length<=24):(zfI l f X S m b).length<=24:=by
 rw[j80];split
 . exact (j84 hg f X S m hS h0 hX hl).2
 . exact hb
theorem zz57{P:Prop}(h:P:=by have cI:=fun W=>T1 N 0 hN24 om W ht;have Hn:=zh (Hno.out ht);clear ht;go_wp2_with (go_at_call 225;refine (cI _).mono ?_;rintro e' w' ⟨rfl,hw'⟩;subst hw');go_roundw;(case rel=>exact⟨k+1,aoR,cR,om,om,zg,by rw[Hn.out];exact HBR.out.ext hE2,by rw[Hn.out];exact HIR.out.ext hE2,by rw[Hn.out];exact hRl,HFr.out.trans (hE2.fw _)⟩);case measure=>exact zm1):P:=h
theorem zz64{P:Prop}(h:P:=by have hkl:k=ord l:=(by omega);have Hn:=zh (show zfI l (f+1) X S m B=G6 l f X S m B k by rw[He.out,hkl]);clear hkl;go_wp2_with (go_at_call 99;refine cO.mono ?_;rintro e1 w1 ⟨rfl,hE1⟩);go_end0;exact⟨rfl,aoR,cR,by rw[Hn.out];exact HBR.out.ext hE1,by rw[Hn.out];exact HIR.out.ext hE1,HF0.out.trans (HFr.out.trans (hE1.fw _))⟩):P:=h
theorem jt5(v:Value)(l:List Int)(Hgr:Hid (j1 l=true))(W0:World)(bB:Nat)(h0B:W0.heap.size<=bB)(HI:Hid (∀W,Ext W0 W->c9 W v l)) :
 ∀(f:Nat) (X B:List Nat) (S m:Nat) (aoX aoB:Option Addr) (cX cB:Nat) (w:World),Ext W0 w->c9 w (.slice aoX X.length cX) (b9 X)->Blk w bB 26 #[.slice aoB B.length cB]->c9 w (.slice aoB B.length cB) (b9 B)->B.length<=24->S<2 ^ ord l->S.testBit 0=false->frm X=m->m<=ord l->ord l<cnt S+f->X.length<=cnt S->(∀x∈X,x<ord l) ->
 Calls Tryz.prog 247 #[.agg #[v],.slice aoX X.length cX,.int .i64 S,.func (.func 248) #[] #[.pointer (some ⟨bB,0,none⟩)]] w fun e w'=>e=.returned (.tuple #[])∧∃ao c,Blk w' bB 26 #[.slice ao (zfI l f X S m B).length c]∧c9 w' (.slice ao (zfI l f X S m B).length c) (b9 (zfI l f X S m B))∧Fw (Bx bB) w w':=by
 intro f;induction f with
 | zero=>intro X B S m aoX aoB cX cB w hW hX hBk hIB hBl hS h0 hfr hm hf;have:=b77 Hgr.out hS;omega
 | succ f ih =>
  intro X B S m aoX aoB cX cB w hW hX hBk hIB hBl hS h0 hfr hm hf hXl hXo;have hob:=m8 Hgr.out;have hp24:=C4 Hgr.out;have hS24:S<2 ^ 24:=nlt hS hp24;have hcS:=r9 S;have hX24:X.length<=24:=om;obtain⟨wb,hwb⟩:=nq (w.alloc (.cells #[v] 28));have hE0:Ext w wb:=by rw[hwb];exact (er _).alloc _
  have BG:Blk wb w.heap.size 28 #[v]:=by rw[hwb];exact Blk.new _ _ _
  have hne:w.heap.size≠bB:=by have:=hBk.lt;omega
  have Hwb:=zh hwb;have Hih:=zh ih;have hBk1:=hBk.ext hE0;have hX1:=hX.ext hE0;have hIB1:=hIB.ext hE0;have hW1:=hW.trans hE0;have HF0:=zh (hE0.fw (Bx bB));clear ih hX hBk hIB hwb hE0;have He:=zh (j82 l f X S m B);have Hst:=zh (dm6 l f X S m B);have cV:=j77 X B S aoX aoB cX cB bB wb hBk1 hX24 hBl;have hS0:∀k,Bx bB k->W0.heap.size<=k:=fun k hk=>by rw[hk];exact h0B
  have HfK:Hid (∀w1,Blk w1 bB 26 #[if B.length<X.length then .slice aoX X.length cX else .slice aoB B.length cB]->Fw (Bx bB) wb w1->∃ao0 c0,Blk w1 bB 26 #[.slice ao0 (G6 l f X S m B m).length c0]∧c9 w1 (.slice ao0 (G6 l f X S m B m).length c0) (b9 (G6 l f X S m B m))∧(G6 l f X S m B m).length<=24):=zh fun w1 hB1 hF1=>by
   rw[Hst.out]
   by_cases hq:B.length<X.length
   . rw[if_pos hq] at hB1
     rw[if_pos hq]
     exact⟨aoX,cX,hB1,hX1.fw hBk1 hF1,hX24⟩
   . rw[if_neg hq] at hB1
     rw[if_neg hq]
     exact⟨aoB,cB,hB1,hIB1.fw hBk1 hF1,hBl⟩
  by_cases hXe:X.length=0
  . have Hm:Hid ((1:Int)=(m:Int)):=zh (by rw[<-hfr];unfold frm;rw[if_pos hXe];rfl);have hxI:¬(0:Int)<((X.length:Nat):Int):=om;clear hXe;go_in;go_wp2_with fail;rw[<-Hwb.out];refine cV.mono ?_;rintro e w1 ⟨rfl,hBv,hFv⟩;obtain⟨ao0,c0,hK0⟩:=HfK.out w1 hBv hFv;have HK0:=zh hK0;have HF1:=zh hFv;clear hBv hFv hK0 cV HfK;go_wp2_with fail;obtain⟨d17,hd17⟩:∃d:Bool,d=decide (0<X.length):=⟨_,rfl⟩;rw[<-hd17];clear hd17 hxI;go_loopw [9] (fun xv wr=>∃(k:Nat) (ao:Option Addr) (c:Nat),m<=k∧k<=ord l∧xv=.int .i64 k∧Blk wr bB 26 #[.slice ao (G6 l f X S m B k).length c]∧c9 wr (.slice ao (G6 l f X S m B k).length c) (b9 (G6 l f X S m B k))∧(G6 l f X S m B k).length<=24∧Fw (Bx bB) wb wr) (fun xv _=>ord l - (intOf xv).toNat);(case atStart=>exact⟨m,ao0,c0,Nat.le_refl _,hm,by first | rfl | rw[Hm.out],HK0.out.1,HK0.out.2.1,HK0.out.2.2,HF1.out⟩);case round =>
     obtain⟨k,aoR,cR,hk1,hk2,rfl,hBR,hIR,hRl,hF⟩:=hrel;have hEr:=hF.ext hW1 hS0;have BGr:=hF.blk BG hne;have HXr:=zh (hX1.fw hBk1 hF);have kG:∀W,Ext wr W->W.cell? ⟨w.heap.size,0,none⟩=some v:=fun W hW=>(BGr.ext hW).cell (i:=0) rfl;have cO:=p7 v l wr (HI.out _ hEr) Hgr;have hEr0:=er wr;have HFr:=zh hF;have HBR:=zh hBR;have HIR:=zh hIR;clear hF hBR hIR;by_cases hlt:k<ord l
     . have hk24:k<24:=(by omega);have hN:=bj0 Hgr.out hS hlt;have hNc:=b71 Hgr.out hS h0 hlt;have hN24:nxS l S k<2 ^ 24:=nlt hN hp24;have hsh:=G0 Hgr.out S k;have q1:=p6 (n:=k) om;have q2:ior (S:Int) (j6 l S k:Int)=((S ||| j6 l S k:Nat):Int):=M4 om om;have q3:ior ((S ||| j6 l S k:Nat):Int) ((pw k:Nat):Int)=((nxS l S k:Nat):Int):=F6 (Nat.or_lt_two_pow hS24 hsh) hk24;have Hno:=zh (fun h=>di2 (l:=l) (f:=f) (X:=X) (S:=S) (m:=m) (k:=k) (b:=B) h);have Hye:=zh (fun h=>d09 (l:=l) (f:=f) (X:=X) (S:=S) (m:=m) (k:=k) (b:=B) hk1 h);obtain⟨N,hNd⟩:=nq (nxS l S k);rw[<-hNd] at hN hNc hN24 q3 Hno Hye;have cS:=fun W (hW:Ext wr W)=>H9 v l S k W (HI.out _ (hEr.trans hW)) Hgr hS24 hk24;clear hNd;go_wp2_with (go_at_call 99;refine cO.mono ?_;rintro e1 w1 ⟨rfl,hE1⟩);have hbx:=fun U=>kG _ (hE1.trans (d5 w1 U));have hE:=er w1;(refine wl hE ?_);(repeat (go_big_quiet_step (first | (go_at_call 220;exact Calls.lat (cS _ (hE1.trans (d5 w1 _)))))));(refine zd ?_);(clear hE);(intro W hE);rename World=>w2;have hE2:=hE1.trans hE;clear hbx cS;cases ht:N.testBit 0
       . have cI:=fun W=>T1 N 0 hN24 om W ht;have hEW2:=hEr.trans hE2;have BG2:=BGr.ext hE2;have hkk:(X++[k]).length=X.length+1:=zm;have hXo2:∀x∈X++[k],x<ord l:=by
          intro y hy;rw[List.mem_append,List.mem_singleton] at hy;rcases hy with hy | rfl
          . exact hXo y hy
          . exact hlt
         have hcR:∀W aoN cN,Ext w2 W->c9 W (.slice aoN (X.length+1) cN) (b9 (X++[k]))->Calls Tryz.prog 247 #[.agg #[v],.slice aoN (X.length+1) cN,.int .i64 N,.func (.func 248) #[] #[.pointer (some ⟨bB,0,none⟩)]] W fun e w'=>e=.returned (.tuple #[])∧∃ao c,Blk w' bB 26 #[.slice ao (G6 l f X S m B (k+1)).length c]∧c9 w' (.slice ao (G6 l f X S m B (k+1)).length c) (b9 (G6 l f X S m B (k+1)))∧Fw (Bx bB) W w':=fun W aoN cN hW hI=>by
          have q:=Hih.out (X++[k]) (G6 l f X S m B k) N k aoN aoR cN cR W (hEW2.trans hW) (by rw[hkk];exact hI) (HBR.out.ext (hE2.trans hW)) (HIR.out.ext (hE2.trans hW)) hRl hN ht (da2 X k) om om (by rw[hkk];omega) hXo2
          rw[hkk,<-Hye.out ht] at q
          exact q
         have hRl2:(G6 l f X S m B (k+1)).length<=24:=by
          rw[Hye.out ht];exact j81 Hgr.out f (X++[k]) N k _ hN ht hXo2 (by rw[hkk];omega) hRl
         have HX2:=zh (fun W (hW:Ext w2 W)=>HXr.out.ext (hE2.trans hW));have hln:(b9 X).length+[(k:Int)].length<=17592186044416:=(by rw[j2];simp;omega);have kG2:∀W,Ext w2 W->W.cell? ⟨w.heap.size,0,none⟩=some v:=fun W hW=>kG _ (hE2.trans hW);have hFw2:=zh (HFr.out.trans (hE2.fw (Bx bB)));clear ht hkk hXo2 kG hE1;replace hE:=er w2;go_wp2_with (go_at_call 225;refine (cI _).mono ?_;rintro e' w' ⟨rfl,hw'⟩;subst hw');(first | (go_region_held3 (fun W=>W.cell? ⟨w.heap.size,0,none⟩=some v) (first | exact hG5 | exact kG2 _ xr) (first | (go_at_call 212;(with_reducible refine Calls.mono (Calls.sh (F8 _ _ _ (HX2.out _ xr))) ?_);rintro eC wC ⟨aoC,cC,rfl,hOC,hXC⟩;have hHC:=Ext.trans (a:=w2) xr hXC;have hOC2:=hOC.mono (show Ext w2 _ by repeat (first | (with_reducible assumption) | (with_reducible exact er _) | (with_reducible apply Ext.drew) | (with_reducible apply Ext.alloc) | (with_reducible (apply And.left;assumption))))) | (go_at_call 247;(with_reducible refine Calls.mono (hcR _ _ _ xr (Own.ints (by repeat (first | (with_reducible exact hON) | (with_reducible apply Own.alloc) | (with_reducible apply Own.drew))))) ?_);rintro eF wF ⟨rfl,aoF,cF,hBF,hIF,hFF⟩;have hG5:=(hFF.blk (BG2.ext xr) hne).cell (i:=0) (v:=v) rfl) | (have hOq:=hOC2;refine q9 slI rfl _ _ rfl w2 w2 _ _ (b9 X) [(k:Int)] (Or.inr (by first | exact hOq | exact hOq.alloc _ | exact (hOq.alloc _).drew)) (Blk.ints1 (T:=3) zq2) xr hln rfl rfl ?_;intro vD wD hOD hXD hTD;obtain⟨aoN,cN,rfl,hON,hEN⟩:=NxP.of hOD hXD))) | (fail "the region"));all_goals
          go_wp2_with fail
          go_roundw
          case rel=>exact⟨k+1,aoF,cF,om,om,zg,hBF,hIF,hRl2,hFw2.out.trans ((hEN.fw _).trans hFF)⟩
          case measure=>exact zm1
       . exact zz57
     . exact zz64
  . have hxI:(0:Int)<((X.length:Nat):Int):=(by omega);have hXl1:X.length - 1<X.length:=om;have Hlast:Hid (d8 X (X.length - 1)=m):=zh (by rw[<-hfr];unfold frm;rw[if_neg hXe]);have Hm:Hid ((m:Int)=(m:Int)):=zh rfl;clear hXe;go_in;go_wp2_with fail;rw[<-Hwb.out];refine cV.mono ?_;rintro e w1 ⟨rfl,hBv,hFv⟩;obtain⟨ao0,c0,hK0⟩:=HfK.out w1 hBv hFv;obtain⟨ao',c',adrX,hvX,hadrX,hcellX⟩:=(hX1.fw hBk1 hFv).nats;have hix:=j3 (c:=c') elI szI hadrX;simp only[Value.slice.injEq] at hvX;obtain⟨rfl,-,rfl⟩:=hvX;have ix1:∀W,(Instr.indexAt 26 (.slice aoX X.length cX) (.int .i64 ((X.length:Int) - 1))).run Tryz.prog W=.ok (.pointer (some (adrX (X.length - 1)))) W:=fun W=>(by rw[show ((X.length:Int) - 1)=((X.length - 1:Nat):Int) by omega];exact hix _ W hXl1);have hck:w1.cell? (adrX (X.length - 1))=some (.int .i64 (m:Int)):=(by rw[<-Hlast.out];exact hcellX _ _ hXl1 (er _));have HK0:=zh hK0;have HF1:=zh hFv;clear hBv hFv hK0 cV HfK hix hcellX hadrX;go_wp2_with fail;obtain⟨d17,hd17⟩:∃d:Bool,d=decide (0<X.length):=⟨_,rfl⟩;rw[<-hd17];clear hd17 hxI ix1 hck;go_loopw [9] (fun xv wr=>∃(k:Nat) (ao:Option Addr) (c:Nat),m<=k∧k<=ord l∧xv=.int .i64 k∧Blk wr bB 26 #[.slice ao (G6 l f X S m B k).length c]∧c9 wr (.slice ao (G6 l f X S m B k).length c) (b9 (G6 l f X S m B k))∧(G6 l f X S m B k).length<=24∧Fw (Bx bB) wb wr) (fun xv _=>ord l - (intOf xv).toNat);(case atStart=>exact⟨m,ao0,c0,Nat.le_refl _,hm,by first | rfl | rw[Hm.out],HK0.out.1,HK0.out.2.1,HK0.out.2.2,HF1.out⟩);case round =>
     obtain⟨k,aoR,cR,hk1,hk2,rfl,hBR,hIR,hRl,hF⟩:=hrel;have hEr:=hF.ext hW1 hS0;have BGr:=hF.blk BG hne;have HXr:=zh (hX1.fw hBk1 hF);have kG:∀W,Ext wr W->W.cell? ⟨w.heap.size,0,none⟩=some v:=fun W hW=>(BGr.ext hW).cell (i:=0) rfl;have cO:=p7 v l wr (HI.out _ hEr) Hgr;have hEr0:=er wr;have HFr:=zh hF;have HBR:=zh hBR;have HIR:=zh hIR;clear hF hBR hIR;by_cases hlt:k<ord l
     . have hk24:k<24:=(by omega);have hN:=bj0 Hgr.out hS hlt;have hNc:=b71 Hgr.out hS h0 hlt;have hN24:nxS l S k<2 ^ 24:=nlt hN hp24;have hsh:=G0 Hgr.out S k;have q1:=p6 (n:=k) om;have q2:ior (S:Int) (j6 l S k:Int)=((S ||| j6 l S k:Nat):Int):=M4 om om;have q3:ior ((S ||| j6 l S k:Nat):Int) ((pw k:Nat):Int)=((nxS l S k:Nat):Int):=F6 (Nat.or_lt_two_pow hS24 hsh) hk24;have Hno:=zh (fun h=>di2 (l:=l) (f:=f) (X:=X) (S:=S) (m:=m) (k:=k) (b:=B) h);have Hye:=zh (fun h=>d09 (l:=l) (f:=f) (X:=X) (S:=S) (m:=m) (k:=k) (b:=B) hk1 h);obtain⟨N,hNd⟩:=nq (nxS l S k);rw[<-hNd] at hN hNc hN24 q3 Hno Hye;have cS:=fun W (hW:Ext wr W)=>H9 v l S k W (HI.out _ (hEr.trans hW)) Hgr hS24 hk24;clear hNd;go_wp2_with (go_at_call 99;refine cO.mono ?_;rintro e1 w1 ⟨rfl,hE1⟩);have hbx:=fun U=>kG _ (hE1.trans (d5 w1 U));have hE:=er w1;(refine wl hE ?_);(repeat (go_big_quiet_step (first | (go_at_call 220;exact Calls.lat (cS _ (hE1.trans (d5 w1 _)))))));(refine zd ?_);(clear hE);(intro W hE);rename World=>w2;have hE2:=hE1.trans hE;clear hbx cS;cases ht:N.testBit 0
       . have cI:=fun W=>T1 N 0 hN24 om W ht;have hEW2:=hEr.trans hE2;have BG2:=BGr.ext hE2;have hkk:(X++[k]).length=X.length+1:=zm;have hXo2:∀x∈X++[k],x<ord l:=by
          intro y hy;rw[List.mem_append,List.mem_singleton] at hy;rcases hy with hy | rfl
          . exact hXo y hy
          . exact hlt
         have hcR:∀W aoN cN,Ext w2 W->c9 W (.slice aoN (X.length+1) cN) (b9 (X++[k]))->Calls Tryz.prog 247 #[.agg #[v],.slice aoN (X.length+1) cN,.int .i64 N,.func (.func 248) #[] #[.pointer (some ⟨bB,0,none⟩)]] W fun e w'=>e=.returned (.tuple #[])∧∃ao c,Blk w' bB 26 #[.slice ao (G6 l f X S m B (k+1)).length c]∧c9 w' (.slice ao (G6 l f X S m B (k+1)).length c) (b9 (G6 l f X S m B (k+1)))∧Fw (Bx bB) W w':=fun W aoN cN hW hI=>by
          have q:=Hih.out (X++[k]) (G6 l f X S m B k) N k aoN aoR cN cR W (hEW2.trans hW) (by rw[hkk];exact hI) (HBR.out.ext (hE2.trans hW)) (HIR.out.ext (hE2.trans hW)) hRl hN ht (da2 X k) om om (by rw[hkk];omega) hXo2
          rw[hkk,<-Hye.out ht] at q
          exact q
         have hRl2:(G6 l f X S m B (k+1)).length<=24:=by
          rw[Hye.out ht];exact j81 Hgr.out f (X++[k]) N k _ hN ht hXo2 (by rw[hkk];omega) hRl
         have HX2:=zh (fun W (hW:Ext w2 W)=>HXr.out.ext (hE2.trans hW));have hln:(b9 X).length+[(k:Int)].length<=17592186044416:=(by rw[j2];simp;omega);have kG2:∀W,Ext w2 W->W.cell? ⟨w.heap.size,0,none⟩=some v:=fun W hW=>kG _ (hE2.trans hW);have hFw2:=zh (HFr.out.trans (hE2.fw (Bx bB)));clear ht hkk hXo2 kG hE1;replace hE:=er w2;go_wp2_with (go_at_call 225;refine (cI _).mono ?_;rintro e' w' ⟨rfl,hw'⟩;subst hw');(first | (go_region_held3 (fun W=>W.cell? ⟨w.heap.size,0,none⟩=some v) (first | exact hG5 | exact kG2 _ xr) (first | (go_at_call 212;(with_reducible refine Calls.mono (Calls.sh (F8 _ _ _ (HX2.out _ xr))) ?_);rintro eC wC ⟨aoC,cC,rfl,hOC,hXC⟩;have hHC:=Ext.trans (a:=w2) xr hXC;have hOC2:=hOC.mono (show Ext w2 _ by repeat (first | (with_reducible assumption) | (with_reducible exact er _) | (with_reducible apply Ext.drew) | (with_reducible apply Ext.alloc) | (with_reducible (apply And.left;assumption))))) | (go_at_call 247;(with_reducible refine Calls.mono (hcR _ _ _ xr (Own.ints (by repeat (first | (with_reducible exact hON) | (with_reducible apply Own.alloc) | (with_reducible apply Own.drew))))) ?_);rintro eF wF ⟨rfl,aoF,cF,hBF,hIF,hFF⟩;have hG5:=(hFF.blk (BG2.ext xr) hne).cell (i:=0) (v:=v) rfl) | (have hOq:=hOC2;refine q9 slI rfl _ _ rfl w2 w2 _ _ (b9 X) [(k:Int)] (Or.inr (by first | exact hOq | exact hOq.alloc _ | exact (hOq.alloc _).drew)) (Blk.ints1 (T:=3) zq2) xr hln rfl rfl ?_;intro vD wD hOD hXD hTD;obtain⟨aoN,cN,rfl,hON,hEN⟩:=NxP.of hOD hXD))) | (fail "the region"));all_goals
          go_wp2_with fail
          go_roundw
          case rel=>exact⟨k+1,aoF,cF,om,om,zg,hBF,hIF,hRl2,hFw2.out.trans ((hEN.fw _).trans hFF)⟩
          case measure=>exact zm1
       . exact zz57
     . exact zz64
theorem bz1(v:Value)(l:List Int)(w:World)(h:c9 w v l) :
 Calls Tryz.prog 141 #[.agg #[v]] w fun e w'=>∃ao c,e=.returned (.tuple #[.slice ao (lzL l).length c,.bool (lzB l)])∧c9 w' (.slice ao (lzL l).length c) (b9 (lzL l))∧Ext w w':=by
 obtain⟨wb,Hwb,hE0,hb,hg,hE,Hsz⟩:=ju3 28 h;clear h;have hbx:=hb wb hE;have cG:=A1 v l wb (hg _ hE);cases hgr:j1 l
 . have hB:lzB l=false:=(by unfold lzB;rw[hgr];rfl);have Hs:=zh (And.intro hB (d41 hB));rw[hgr] at cG;clear hB;go_in;go_wp2_with fail;rw[<-Hwb.out];refine cG.mono ?_;rintro e w1 ⟨rfl,hE1⟩;go_wp2_with fail;have hEf:=hE0.trans hE1;exact bodyPost_ret (v:=.tuple #[.slice (some ⟨w1.heap.size,0,none⟩) 0 0,.bool false]) (by simp[results,Tryz.results141,go_sem]) rfl ⟨_,_,by rw[Hs.out.1,Hs.out.2];rfl,by rw[Hs.out.2];exact (m7 (TI:=3) (n:=0) om hEf (b9 []) rfl).ints,Ext.alloc hEf _⟩
 rw[hgr] at cG;have Hgr:=zh hgr;have hob:=m8 hgr;have cO:=fun W (hW:Ext wb W)=>p7 v l W (hg _ hW) Hgr;by_cases hm:ord l<=9;rotate_left
 . have hB:lzB l=false:=(by unfold lzB;rw[hgr];simpa using hm);have Hs:=zh (And.intro hB (d41 hB));clear hB;go_in;go_wp2_with fail;rw[<-Hwb.out];refine cG.mono ?_;rintro e w1 ⟨rfl,hE1⟩;have hb1:=hb w1 hE1;go_wp2_with (refine (cO _ hE1).mono ?_;rintro e w2 ⟨rfl,hE2⟩);have hEf:=hE0.trans (hE1.trans hE2);exact bodyPost_ret (v:=.tuple #[.slice (some ⟨w2.heap.size,0,none⟩) 0 0,.bool false]) (by simp[results,Tryz.results141,go_sem]) rfl ⟨_,_,by rw[Hs.out.1,Hs.out.2];rfl,by rw[Hs.out.2];exact (m7 (TI:=3) (n:=0) om hEf (b9 []) rfl).ints,Ext.alloc hEf _⟩
 have hB:lzB l=true:=by unfold lzB;rw[hgr];simpa using hm
 have Hs:=zh (And.intro hB (j29 hB));have hmf:∀(fn:Fn) (first cap:Array Value) (w:World),(Instr.makeFunc fn first cap).run Tryz.prog w=.ok (.func fn first cap) w:=fun _ _ _ _=>rfl;have hz0:(zfI l (ord l+1) [] 0 1 [])=zfS l (ord l+1) [] 0 1:=by
  rw[j80];split
  . rfl
  . next h=>exact (List.eq_nil_of_length_eq_zero (by simp at h;rw[h];rfl)).symm
 have cF:=fun (W0 W:World) (bB:Nat) (aoB:Option Addr) (cB:Nat) (aoX:Option Addr) (cX:Nat) (hW0:Ext wb W0) (hW:Ext W0 W) (h0B:W0.heap.size<=bB) (hBk:Blk W bB 26 #[.slice aoB 0 cB]) (hIB:c9 W (.slice aoB 0 cB) []) (hIX:c9 W (.slice aoX 0 cX) []) =>
  jt5 v l Hgr W0 bB h0B (zh fun W' hW'=>hg _ (hW0.trans hW')) (ord l+1) [] [] 0 1 aoX aoB cX cB W hW hIX hBk hIB zm (Nat.two_pow_pos _) zm rfl om (by simp[W7]) zm zm
 rw[hz0] at cF;obtain⟨Z,hZ⟩:=nq (zfS l (ord l+1) [] 0 1);rw[<-hZ] at cF Hs;clear hB hgr hZ hz0;go_in;go_wp2_with fail;rw[<-Hwb.out];refine cG.mono ?_;rintro e w1 ⟨rfl,hE1⟩;have hb1:=hb w1 hE1;go_wp2_with (go_at_call 99;refine (cO _ hE1).mono ?_;rintro e w2 ⟨rfl,hE2⟩;have hE12:=hE1.trans hE2;have hb2:=hb w2 hE12;have hb3:=hb _ ((hE12.alloc (.cells #[] 3)).alloc (.cells #[.slice (some ⟨w2.heap.size,0,none⟩) 0 0] 26)));obtain⟨x1,h1⟩:=nq (w2.alloc (.cells #[] 3));obtain⟨x2,h2⟩:=nq (x1.alloc (.cells #[.slice (some ⟨w2.heap.size,0,none⟩) 0 0] 26));obtain⟨x3,h3⟩:=nq (x2.alloc (.cells #[] 3));have s1:x1.heap.size=w2.heap.size+1:=by rw[h1];simp
 have s2:x2.heap.size=w2.heap.size+1+1:=by rw[h2];simp[s1]
 rw[<-h1,<-h2,<-h3];have e1:Ext w2 x1:=by rw[h1];exact (er _).alloc _
 have e2:Ext x1 x2:=by rw[h2];exact (er _).alloc _
 have e3:Ext x2 x3:=by rw[h3];exact (er _).alloc _
 have O1:Own 3 w2 x1 (.slice (some ⟨w2.heap.size,0,none⟩) 0 0) []:=by rw[h1];exact m7 (TI:=3) (n:=0) om (er w2) [] rfl
 have B2:Blk x2 (w2.heap.size+1) 26 #[.slice (some ⟨w2.heap.size,0,none⟩) 0 0]:=by rw[h2,<-s1];exact Blk.new _ _ _
 have O3:Own 3 x2 x3 (.slice (some ⟨w2.heap.size+1+1,0,none⟩) 0 0) []:=by rw[h3,<-s2];exact m7 (TI:=3) (n:=0) om (er x2) [] rfl
 refine (cF w2 x3 (w2.heap.size+1) _ _ _ _ hE12 (e1.trans (e2.trans e3)) om (B2.ext e3) (O1.ints.ext (e2.trans e3)) O3.ints).mono ?_;rintro e w4 ⟨rfl,aoZ,cZ,hBZ,hIZ,hFZ⟩;have kz:=hBZ.cell (i:=0) (v:=.slice aoZ Z.length cZ) rfl;have hEf:Ext w2 w4:=hFZ.ext (e1.trans (e2.trans e3)) (fun k hk=>by rw[hk];omega);go_wp2_with fail;exact bodyPost_ret (v:=.tuple #[.slice aoZ Z.length cZ,.bool true]) (by simp[results,Tryz.results141,go_sem]) rfl ⟨_,_,by rw[Hs.out.1,Hs.out.2],by rw[Hs.out.2];exact hIZ,hE0.trans (hE12.trans hEf)⟩
theorem zz156{P:Prop}(h:P:=by go_ret;exact⟨_,rfl,by rw[Hs.out];exact hO.mono hE0,hE0.trans hE⟩):P:=h
theorem zz174{P:Prop}(h:P:=by go_ret;exact⟨_,rfl,by have:=Hs.out;rw[show ((0:Nat):Int)=0 from rfl,this];exact hO.mono hE0,hE0.trans hE⟩):P:=h
theorem b52(v:Value)(l:List Int)(a:Int)(w:World)(h:c9 w v l) :
 Calls Tryz.prog 303 #[.agg #[v],.int .i64 a] w fun e w'=>∃u,e=.returned u∧Own 3 w w' u (N2 l a)∧Ext w w':=by
 obtain⟨wb,Hwb,hE0,hb,hg,hE,Hsz⟩:=ju3 28 h;clear h;obtain⟨wc,hwc⟩:=nq (wb.alloc (.cells #[] 3));have hO:Own 3 wb wc (.slice (some ⟨wb.heap.size,0,none⟩) 0 0) []:=by rw[hwc];exact m7 om hE [] rfl
 replace hE:Ext wb wc:=by rw[hwc];exact hE.alloc _
 have Hsz2:Hid (wb.heap.size+1=wc.heap.size):=zh (by rw[hwc];simp[go_sem]);have Hwc:=zh hwc;clear hwc;cases hs:j4 l a
 . have Hs:=zh (c76 (J9 hs));go_in;go_wp2_with fail;rw[<-Hwb.out,<-Hwc.out];rw[Hsz.out];try rw[Hsz2.out]
   go_wp2_with (first | (go_at_call 105;refine Calls.mono (p8 _ _ _ _ (hg _ xq) hs) ?_;rintro e w' ⟨rfl,hE'⟩;replace hO:=hO.ext (Ext.trans xq hE');replace hE:=hE.trans (Ext.trans xq hE');clear hE'));exact zz156
 . obtain⟨n,rfl,h1,h2,hgr⟩:=o4 hs;by_cases h0:n=0
   . subst h0;have Hs:=zh (c76 (G2 l));go_in;go_wp2_with fail;rw[<-Hwb.out,<-Hwc.out];rw[Hsz.out];try rw[Hsz2.out]
     go_wp2_with (first | (go_at_call 105;refine Calls.mono (p8 _ _ _ _ (hg _ xq) hs) ?_;rintro e w' ⟨rfl,hE'⟩;replace hO:=hO.ext (Ext.trans xq hE');replace hE:=hE.trans (Ext.trans xq hE');clear hE'));exact zz174
   . have Hs:=zh (d82 (M5 hs om));have h0':((n:Int) == 0)=false:=(by simp;omega);have Hgr:=zh hgr;have hob:=m8 hgr;have hcn:=r9 n;clear hgr h0;go_in;go_wp2_with fail;rw[<-Hwb.out,<-Hwc.out];rw[Hsz.out];try rw[Hsz2.out]
     go_wp2_with (first | (go_at_call 105;refine Calls.mono (p8 _ _ _ _ (hg _ xq) hs) ?_;rintro e w' ⟨rfl,hE'⟩;replace hO:=hO.ext (Ext.trans xq hE');replace hE:=hE.trans (Ext.trans xq hE');clear hE') | (go_at_call 99;refine (p7 _ _ _ (hg _ hE) Hgr).mono ?_;rintro e w' ⟨rfl,hE'⟩;replace hO:=hO.ext hE';replace hE:=hE.trans hE';clear hE'));clear hs h0';go_loopw [5,21] (fun u x wr=>∃k:Nat,k<=ord l∧x=.int .i64 k∧Own 3 wb wr u (b9 (Z5 l n k))∧Ext wb wr) (fun _ x _=>ord l - (intOf x).toNat);(case atStart=>exact⟨0,om,rfl,hO,hE⟩);case round =>
      clear hE hO;obtain⟨k,hk,rfl,hO,hE⟩:=hrel;by_cases hlt:k<ord l
      . have hln:(b9 (Z5 l n k)).length<=24:=(by rw[j2];have:=cw1 l n k;omega);go_wp2_with (first | (go_at_call 214;refine (I5 n h2 _).mono ?_;rintro e w1 ⟨v1,rfl,hL,hE1⟩;obtain⟨aoL,cL,adrL,rfl,hadrL,hcellL⟩:=hL.ints.nats;have hixL:=j3 (c:=cL) elI szI hadrL;clear hadrL));replace hO:=hO.ext hE1;replace hE:=hE.trans hE1;have hall:∀y∈j7 n,y<24:=fun y hy=>I9 hy;have hlen:=B7 n;have Hdb:Hid (cl0 l n k=bm0 l n k (j7 n)):=zh rfl;clear hL hE1;generalize j7 n=L at hcellL hixL hall hlen Hdb ⊢;have hEw:=er w1;go_loopw [5,27] (fun u i wq=>∃j:Nat,j<=L.length∧i=.int .i64 j∧(∀q,q<j->F9 l (d8 L q) k (cnt n)≠n)∧Own 3 wb wq u (b9 (Z5 l n k))∧Ext w1 wq) (fun _ i _=>L.length - (intOf i).toNat);(case atStart=>exact⟨0,om,rfl,om,hO,hEw⟩);case round =>
         clear hO hEw;obtain⟨j,hj,rfl,hno,hO,hEw⟩:=hrel;have Hno:=zh hno;clear hno;have hEb:=hE.trans hEw;have hbx:=bb7 (hb _ hEb);by_cases hlt2:j<L.length
         . have hck:=hcellL j _ hlt2 hEw;have hx24:=hall _ (o6 hlt2);have hpb:=b16 Hgr.out hx24 k (cnt n);by_cases hq:F9 l (d8 L j) k (cnt n)=n
           . have Hn:=zh (cw2 (by rw[Hdb.out];exact d84 hlt2 hq));have hqi:((F9 l (d8 L j) k (cnt n):Int) == (n:Int))=true:=(by rw[hq];simp);clear hq;clear hE;have hE:=er wr;go_wp2_with fail;(refine wl hE ?_);(repeat (go_big_quiet_step (first | (go_at_call 107;exact Calls.lat_same (A9 _ h2 _)) | (go_at_call 348;exact Calls.lat (ba4 _ _ _ _ _ _ (hg _ (hEb.trans (d5 wr _))) Hgr hx24 om hcn)))));(refine zd ?_);(clear hE);(intro W hE);replace hO:=hO.ext hE;replace hEb:=hEb.trans hE;replace hEw:=hEw.trans hE;go_wp2_with (at_builtin;refine A6 slI rfl _ _ rfl wb _ _ _ _ hO hEb om rfl rfl ?_;intro v1 w1 hO1 hE1);go_roundw;(case rel=>exact⟨k+1,om,zg,by rw[Hn.out];simpa[D5] using hO1,hE1⟩);case measure=>exact zm1
           . have hqi:((F9 l (d8 L j) k (cnt n):Int) == (n:Int))=false:=(by simp;omega);have Hq:=zh hq;clear hq;clear hE;have hE:=er wr;go_wp2_with fail;(refine wl hE ?_);(repeat (go_big_quiet_step (first | (go_at_call 107;exact Calls.lat_same (A9 _ h2 _)) | (go_at_call 348;exact Calls.lat (ba4 _ _ _ _ _ _ (hg _ (hEb.trans (d5 wr _))) Hgr hx24 om hcn)))));(refine zd ?_);(clear hE);(intro W hE);replace hO:=hO.ext hE;replace hEb:=hEb.trans hE;replace hEw:=hEw.trans hE;go_wp2_with fail;go_roundw;(case rel=>exact⟨j+1,om,zg,fun q hq=>by by_cases e:q=j;(subst e;exact Hq.out);exact Hno.out q om,hO,hEw⟩);case measure=>exact zm1
         . have hjl:j=L.length:=(by omega);subst hjl;have Hn:=zh (d83 (by rw[Hdb.out];exact cl1 Hno.out));go_wp2_with fail;go_roundw;(case rel=>exact⟨k+1,om,zg,by rw[Hn.out];exact hO,hEb⟩);case measure=>exact zm1
      . have hkl:k=ord l:=(by omega);subst hkl;go_wp2_with fail;exact zz156
theorem b41(v:Value)(l:List Int)(a:Int)(w:World)(h:c9 w v l) :
 Calls Tryz.prog 284 #[.agg #[v],.int .i64 a] w fun e w'=>∃u,e=.returned u∧Own 3 w w' u (N2 l a)∧Ext w w':=by
 obtain⟨wb,Hwb,hE0,hb,hg,hE,Hsz⟩:=ju3 28 h;clear h;obtain⟨wc,hwc⟩:=nq (wb.alloc (.cells #[] 3));have hO:Own 3 wb wc (.slice (some ⟨wb.heap.size,0,none⟩) 0 0) []:=by rw[hwc];exact m7 om hE [] rfl
 have hBk:Blk wc wb.heap.size 3 #[]:=by rw[hwc];exact Blk.new _ _ _
 replace hE:Ext wb wc:=by rw[hwc];exact hE.alloc _
 have hEc:=er wc;have Hsz2:Hid (wb.heap.size+1=wc.heap.size):=zh (by rw[hwc];simp[go_sem]);have Hwc:=zh hwc;clear hwc;cases hs:j4 l a
 . have Hs:=zh (c76 (J9 hs));go_in;go_wp2_with fail;rw[<-Hwb.out,<-Hwc.out];rw[Hsz.out];try rw[Hsz2.out]
   go_wp2_with (first | (go_at_call 46;refine Calls.mono (l8 _ _ _ _ (hg _ xq) hs) ?_;rintro e w' ⟨rfl,hE'⟩;replace hO:=hO.ext (Ext.trans xq hE');replace hE:=hE.trans (Ext.trans xq hE');clear hE'));exact zz156
 . obtain⟨n,rfl,h1,h2,hgr⟩:=o4 hs;by_cases h0:n=0
   . subst h0;have Hs:=zh (c76 (G2 l));go_in;go_wp2_with fail;rw[<-Hwb.out,<-Hwc.out];rw[Hsz.out];try rw[Hsz2.out]
     go_wp2_with (first | (go_at_call 46;refine Calls.mono (l8 _ _ _ _ (hg _ xq) hs) ?_;rintro e w' ⟨rfl,hE'⟩;replace hO:=hO.ext (Ext.trans xq hE');replace hE:=hE.trans (Ext.trans xq hE');clear hE'));exact zz174
   . have Hs:=zh (d82 (M5 hs om));have h0':((n:Int) == 0)=false:=(by simp;omega);have Hgr:=zh hgr;have hob:=m8 hgr;have hcn:=r9 n;clear hgr h0;go_in;go_wp2_with fail;rw[<-Hwb.out,<-Hwc.out];rw[Hsz.out];try rw[Hsz2.out]
     go_wp2_with (first | (go_at_call 46;refine Calls.mono (l8 _ _ _ _ (hg _ xq) hs) ?_;rintro e w' ⟨rfl,hE'⟩;replace hEc:=hEc.trans (Ext.trans xq hE');replace hE:=hE.trans (Ext.trans xq hE');clear hE') | (go_at_call 66;refine (q8 _ h2 _).mono ?_;rintro e w' ⟨rfl,rfl⟩) | (go_at_call 165;refine (M6 n h2 _).mono ?_;rintro e w1 ⟨v1,rfl,hL,hE1⟩;obtain⟨aoL,cL,adrL,rfl,hadrL,hcellL⟩:=hL.ints.nats;have hixL:=j3 (c:=cL) elI szI hadrL;clear hadrL));replace hO:=J3.start w1 hBk (hEc.trans hE1);replace hE:=hE.trans hE1;have hb1:∀W,Ext w1 W->W.cell? ⟨w.heap.size,0,none⟩=some v:=fun W hW=>hb W (hE.trans hW);have hg1:∀W,Ext w1 W->c9 W v l:=fun W hW=>hg W (hE.trans hW);have hEb1:=hE;clear hs h0' hL hE1 hE hBk hEc;have hall:∀y∈j7 n,y<24:=fun y hy=>I9 hy;have hlen:=B7 n;have Hdb:Hid (∀k,cl0 l n k=bm0 l n k (j7 n)):=zh (fun _=>rfl);generalize j7 n=L at hcellL hixL hall hlen Hdb ⊢;have hE:=er w1;go_loopw [5,8] (fun u x wr=>∃k:Nat,k<=ord l∧x=.int .i64 k∧J3 3 wb w1 wr u (b9 (Z5 l n k))∧Ext w1 wr) (fun _ x _=>ord l - (intOf x).toNat);(case atStart=>exact⟨0,om,rfl,hO,hE⟩);case round =>
      clear hE hO;obtain⟨k,hk,rfl,hO,hE⟩:=hrel;by_cases hlt:k<ord l
      . have hln:(b9 (Z5 l n k)).length<=24:=(by rw[j2];have:=cw1 l n k;omega);have hbx:=hb1 _ hE;go_wp2_with (first | (go_at_call 43;refine (o5 _ _ _ (hg1 _ hE) Hgr).mono ?_;rintro e w' ⟨rfl,hE'⟩;replace hO:=hO.ext hE';replace hE:=hE.trans hE';clear hE'));clear hbx;go_loopw [9,10] (fun fv i wq=>∃(j:Nat) (f:Bool),j<=L.length∧i=.int .i64 j∧fv=.bool f∧(f=true->bm0 l n k L=true)∧(f=false->∀q,q<j->F9 l (d8 L q) k (cnt n)≠n)∧J3 3 wb w1 wq u5 (b9 (Z5 l n k))∧Ext w1 wq) (fun fv i _=>L.length - (intOf i).toNat);(case atStart=>exact⟨0,false,om,rfl,rfl,zm,om,hO,hE⟩);case round =>
         clear hO hE;obtain⟨j,f,hj,rfl,rfl,hyes,hno,hO,hE⟩:=hrel;have Hyes:=zh hyes;have Hno:=zh hno;clear hyes hno;cases f
         . by_cases hlt2:j<L.length
           . have hx24:=hall _ (o6 hlt2);have hpb:=b16 Hgr.out hx24 k (cnt n);by_cases hq:F9 l (d8 L j) k (cnt n)=n
             . have Hat:=zh (d84 hlt2 hq);have hqi:((F9 l (d8 L j) k (cnt n):Int) == (n:Int))=true:=(by rw[hq];simp);clear hq;have hck:=fun U=>hcellL j _ hlt2 (hE.trans (d5 wr U));have hbx:=bb7 (hb1 _ hE);have hgW:∀W,Ext wr W->c9 W v l:=fun W hW=>hg1 W (hE.trans hW);have hE1:=hE;clear hE;have hE:=er wr;go_wp2_with fail;(refine wl hE ?_);(repeat (go_big_quiet_step (first | (go_at_call 333;exact Calls.lat (U9 _ _ _ _ _ _ (hgW _ (d5 wr _)) Hgr hx24 om hcn)))));(refine zd ?_);(clear hE);(intro W hE);replace hO:=hO.ext hE;replace hE:=hE1.trans hE;go_wp2_with fail;go_roundw;(case rel=>exact⟨j+1,true,om,zg,rfl,fun _=>Hat.out,zm,hO,hE⟩);case measure=>exact zm1
             . have hqi:((F9 l (d8 L j) k (cnt n):Int) == (n:Int))=false:=(by simp;omega);have Hq:=zh hq;clear hq;have hck:=fun U=>hcellL j _ hlt2 (hE.trans (d5 wr U));have hbx:=bb7 (hb1 _ hE);have hgW:∀W,Ext wr W->c9 W v l:=fun W hW=>hg1 W (hE.trans hW);have hE1:=hE;clear hE;have hE:=er wr;go_wp2_with fail;(refine wl hE ?_);(repeat (go_big_quiet_step (first | (go_at_call 333;exact Calls.lat (U9 _ _ _ _ _ _ (hgW _ (d5 wr _)) Hgr hx24 om hcn)))));(refine zd ?_);(clear hE);(intro W hE);replace hO:=hO.ext hE;replace hE:=hE1.trans hE;go_wp2_with fail;go_roundw;(case rel=>exact⟨j+1,false,om,zg,rfl,zm,fun _ q hq=>by by_cases e:q=j;(subst e;exact Hq.out);exact Hno.out zm q om,hO,hE⟩);case measure=>exact zm1
           . have hjl:j=L.length:=(by omega);subst hjl;have Hn:=zh (d83 (by rw[Hdb.out];exact cl1 (Hno.out rfl)));go_wp2_with fail;exact zz115
         . have Hn:=zh (cw2 (by rw[Hdb.out];exact Hyes.out rfl));by_cases hlt2:j<L.length;all_goals
            go_wp2_with (at_builtin;refine dm3 slI rfl _ _ rfl wb w1 _ _ _ _ hO hE om rfl rfl ?_;intro v1 w1' hO1 hE1)
            go_roundw
            case rel=>exact⟨k+1,om,zg,by rw[Hn.out,D5];exact Or.inr hO1,hE1⟩
            case measure=>exact zm1
      . have hkl:k=ord l:=(by omega);subst hkl;have hbx:=hb1 _ hE;go_wp2_with (first | (go_at_call 43;refine (o5 _ _ _ (hg1 _ hE) Hgr).mono ?_;rintro e w' ⟨rfl,hE'⟩;replace hO:=hO.ext hE';replace hE:=hE.trans hE';clear hE'));go_ret;exact⟨_,rfl,by rw[Hs.out];exact (hO.own hEb1).mono hE0,hE0.trans (hEb1.trans hE)⟩
end Go.Zz
