/- PairLine of the program and of the reference. -/
import Derived.Test.YtnnbhcalddkmmaaGreatGr19
import Derived.StillTailTactics
import Derived.Deep.AppendLies
set_option linter.unusedSimpArgs false
set_option linter.unusedVariables false
set_option linter.unnecessarySimpa false
set_option maxHeartbeats 2000000
set_option maxRecDepth 8000
namespace Go.Zz
open Go.RowKit Go.Proofs
theorem db7(l:List Int)(a b:Int):(kcF l a b).size<=20:=by
 unfold kcF;(repeat' split)<;>decide
def plG(A B C D E:ByteArray)(dr tl:Bool):ByteArray:=((((((((((((⟨#[112,97,105,114,32,115,117,109,32]⟩:ByteArray)++A)++(⟨#[32,115,105,122,101,32]⟩:ByteArray))++B)++(⟨#[32,98,111,117,110,100,32]⟩:ByteArray))++C)++(⟨#[32,99,97,115,101,32]⟩:ByteArray))++D)++(⟨#[32,101,110,101,114,103,121,32]⟩:ByteArray))++E)++(if dr then (⟨#[32,100,105,114,101,99,116]⟩:ByteArray) else ⟨#[]⟩))++(if tl then (⟨#[32,116,105,108,105,110,103]⟩:ByteArray) else ⟨#[]⟩))
def plF(l:List Int)(a b:Int):ByteArray :=
 if D8 l a b then
  plG (fsF l (l7 l a.toNat b.toNat:Nat)) (o3 (cnt (l7 l a.toNat b.toNat):Int)) (o3 (knI l a b)) (kcF l a b) (o3 (enF l a b)) (drF l a b) (b74 l a b)
 else ⟨#[]⟩
theorem jh9{l:List Int}{a b:Int}(h:D8 l a b=false):plF l a b=⟨#[]⟩:=by unfold plF;rw[h];rfl
theorem j44{l:List Int}{a b:Nat}(h:D8 l a b=true):plF l a b=plG (fsF l (l7 l a b:Nat)) (o3 (cnt (l7 l a b):Int)) (o3 (knI l a b)) (kcF l a b) (o3 (enF l a b)) (drF l a b) (b74 l a b):=by
 unfold plF;rw[if_pos h];rfl
theorem jn0(A B C D E:ByteArray)(dr tl:Bool):(if tl then C9 [(if dr then C9 [C9 [(⟨#[112,97,105,114,32,115,117,109]⟩:ByteArray),A,(⟨#[115,105,122,101]⟩:ByteArray),B,(⟨#[98,111,117,110,100]⟩:ByteArray),C,(⟨#[99,97,115,101]⟩:ByteArray),D,(⟨#[101,110,101,114,103,121]⟩:ByteArray),E],(⟨#[100,105,114,101,99,116]⟩:ByteArray)] else C9 [(⟨#[112,97,105,114,32,115,117,109]⟩:ByteArray),A,(⟨#[115,105,122,101]⟩:ByteArray),B,(⟨#[98,111,117,110,100]⟩:ByteArray),C,(⟨#[99,97,115,101]⟩:ByteArray),D,(⟨#[101,110,101,114,103,121]⟩:ByteArray),E]),(⟨#[116,105,108,105,110,103]⟩:ByteArray)] else (if dr then C9 [C9 [(⟨#[112,97,105,114,32,115,117,109]⟩:ByteArray),A,(⟨#[115,105,122,101]⟩:ByteArray),B,(⟨#[98,111,117,110,100]⟩:ByteArray),C,(⟨#[99,97,115,101]⟩:ByteArray),D,(⟨#[101,110,101,114,103,121]⟩:ByteArray),E],(⟨#[100,105,114,101,99,116]⟩:ByteArray)] else C9 [(⟨#[112,97,105,114,32,115,117,109]⟩:ByteArray),A,(⟨#[115,105,122,101]⟩:ByteArray),B,(⟨#[98,111,117,110,100]⟩:ByteArray),C,(⟨#[99,97,115,101]⟩:ByteArray),D,(⟨#[101,110,101,114,103,121]⟩:ByteArray),E]))=plG A B C D E dr tl:=by
 unfold plG;apply Y0;cases dr<;>cases tl<;>simp[C9,jn,C0,spB,List.getD]
theorem zz135{P:Prop}(h:P:=by rw[c88 hf'];have h5:=dq8 (b:=n) hgr h3 a1;have h6:=r9 (l7 l m (D3 l (l7 l m n)));have h7:=r9 (l7 l n (D3 l (l7 l m n)));refine⟨h5,?_⟩;unfold knF;omega):P:=h
theorem zz148{P:Prop}(h:P:=by rw[bg9 (by have:=hf';unfold D8 at this;simp only[Bool.and_eq_true] at this;rw[this.1.1.1,this.1.1.2];rfl)];have:=bc9 hgr m n (ord l);omega):P:=h
theorem d33(v:Value)(l:List Int)(a b:Int)(w:World)(h:c9 w v l) :
 Calls Tryz.prog 19 #[.agg #[v],.int .i64 a,.int .i64 b] w fun e w'=>e=.returned (.string (plF l a b))∧Ext w w':=by
 obtain⟨wb,Hwb,hE0,hb,hg,hE,Hsz⟩:=ju3 28 h;clear h;cases hf:D8 l a b
 . have Hs:=zh (jh9 hf);have hk1:=db8 hf;go_in;go_wp2_with fail;rw[<-Hwb.out];refine (bj9 _ _ _ _ _ (hg _ hE)).mono ?_;rw[hk1];rintro e w' ⟨rfl,hE'⟩;replace hE:=hE.trans hE';go_wp2_with fail;exact zz62
 have hf':=hf;obtain⟨m,n,rfl,rfl,h3,h4,a1,a2,ha,hb',hgr,-,-⟩:=U7 hf;have Hgr:=zh hgr;have hob:=m8 hgr;have hss:=G9 hgr m n;have hcs:=r9 (l7 l m n);have hk0:0<=knI l m n∧knI l m n<=48:=by
  exact zz135
 have hen:0<=enF l m n∧enF l m n<=7962624:=by
  exact zz148
 have sA:=bb5 l (l7 l m n:Nat);have sD:=db7 l m n;have cA:=fun W (hW:Ext wb W)=>M8 v l (l7 l m n:Nat) W (hg W hW);have cB:=fun W=>A2 (cnt (l7 l m n):Int) om W;have cC:=fun W=>A2 (knI l m n) om W;have cE:=fun W=>A2 (enF l m n) om W;have cD:=fun W (hW:Ext wb W)=>c53 v l m n W (hg W hW);have cK:=fun W (hW:Ext wb W)=>bj9 v l m n W (hg W hW);have cN:=fun W (hW:Ext wb W)=>by4 v l m n W (hg W hW);have cR:=fun W (hW:Ext wb W)=>cc6 v l m n W (hg W hW);have cT:=fun W (hW:Ext wb W)=>by5 v l m n W (hg W hW);have cS:=fun W=>q8 (l7 l m n) hss W;have sB:=o9 (n:=(cnt (l7 l m n):Int)) om;have sC:=o9 (n:=knI l m n) om;have sE:=o9 (n:=enF l m n) om;have Hv:=zh (j44 hf');obtain⟨A,hA⟩:∃x,x=fsF l (l7 l m n:Nat):=⟨_,rfl⟩;obtain⟨B,hB⟩:∃x,x=o3 (cnt (l7 l m n):Int):=⟨_,rfl⟩;obtain⟨C,hC⟩:=nq (o3 (knI l m n));obtain⟨D,hD⟩:=nq (kcF l m n);obtain⟨E,hE'⟩:∃x,x=o3 (enF l m n):=⟨_,rfl⟩;obtain⟨dr,hdr⟩:=nq (drF l m n);obtain⟨tl,htl⟩:=nq (b74 l m n);rw[<-hA] at cA sA Hv;rw[<-hB] at cB sB Hv;rw[<-hC] at cC sC Hv;rw[<-hD] at cD sD Hv;rw[<-hE'] at cE sE Hv;rw[<-hdr] at cR Hv;rw[<-htl] at cT Hv;obtain⟨kn,hkn⟩:=nq (knI l m n);obtain⟨en,hen'⟩:∃x,x=enF l m n:=⟨_,rfl⟩;obtain⟨cs,hcs'⟩:∃x:Int,x=(cnt (l7 l m n):Int):=⟨_,rfl⟩;rw[<-hkn] at cK cC hk0;rw[<-hen'] at cN cE hen;rw[<-hcs'] at cB cS;clear hA hB hC hD hE' hdr htl hkn hen' hcs' hcs hf;have kb:=fun U=>hb _ (d5 wb U);clear hgr;go_in;go_wp2_with fail;rw[<-Hwb.out];go_wp2_with (first | (go_at_call 77;refine cx (cK _ hE) hE ?_;clear hE;intro w' hE) | (go_at_call 49;refine cx (D6 _ _ _ _ _ (hg _ hE) (Hgr) (ha) (hb')) hE ?_;clear hE;intro w' hE));have xe1:(if dr then (⟨#[32,100,105,114,101,99,116]⟩:ByteArray) else (⟨#[]⟩:ByteArray)).size<=20:=by cases dr<;>decide
 have xe2:(if tl then (⟨#[32,116,105,108,105,110,103]⟩:ByteArray) else (⟨#[]⟩:ByteArray)).size<=20:=by cases tl<;>decide
 have cY1:=fun W=>bh6 dr (⟨#[32,100,105,114,101,99,116]⟩:ByteArray) W;have cY2:=fun W=>bh6 tl (⟨#[32,116,105,108,105,110,103]⟩:ByteArray) W;obtain⟨y1,hy1⟩:∃x,x=(if dr then (⟨#[32,100,105,114,101,99,116]⟩:ByteArray) else (⟨#[]⟩:ByteArray)):=⟨_,rfl⟩;obtain⟨y2,hy2⟩:∃x,x=(if tl then (⟨#[32,116,105,108,105,110,103]⟩:ByteArray) else (⟨#[]⟩:ByteArray)):=⟨_,rfl⟩;rw[<-hy1] at cY1 xe1;rw[<-hy2] at cY2 xe2;have Hy1:=zh hy1;have Hy2:=zh hy2;clear hy1 hy2;(refine wl hE ?_);(repeat (go_big_quiet_step (first | (go_at_call 11;with_reducible exact Calls.lat (cA _ (d5 wb _))) | (go_at_call 45;first | with_reducible exact Calls.lat (cB _) | with_reducible exact Calls.lat (cC _) | with_reducible exact Calls.lat (cE _)) | (go_at_call 66;with_reducible exact Calls.lat_same (cS _)) | (go_at_call 77;with_reducible exact Calls.lat (cK _ (d5 wb _))) | (go_at_call 78;with_reducible exact Calls.lat (cD _ (d5 wb _))) | (go_at_call 71;with_reducible exact Calls.lat (cN _ (d5 wb _))) | (go_at_call 79;with_reducible exact Calls.lat (cR _ (d5 wb _))) | (go_at_call 80;with_reducible exact Calls.lat (cT _ (d5 wb _))) | (go_at_call 59;first | with_reducible exact Calls.lat_same (cY1 _) | with_reducible exact Calls.lat_same (cY2 _)))));(refine zd ?_);(clear hE);(intro W hE);go_wp2_with fail;go_ret;exact⟨j9 (by rw[Hv.out,Hy1.out,Hy2.out,plG]),hE0.trans hE⟩
theorem d48(v:Value)(l:List Int)(a b:Int)(w:World)(h:c9 w v l) :
 Calls Tryz.prog 30 #[.agg #[v],.int .i64 a,.int .i64 b] w fun e w'=>e=.returned (.string (plF l a b))∧Ext w w':=by
 obtain⟨wb,Hwb,hE0,hb,hg,hE,Hsz⟩:=ju3 28 h;clear h;cases hf:D8 l a b
 . have Hs:=zh (jh9 hf);go_in;go_wp2_with fail;rw[<-Hwb.out];go_wp2_with (first | (go_at_call 118;refine cx (I4 _ _ _ _ _ (hg _ hE) hf) hE ?_;clear hE;intro w' hE));exact zz62
 have hf':=hf;obtain⟨m,n,rfl,rfl,h3,h4,a1,a2,ha,hb',hgr,-,-⟩:=U7 hf;have Hgr:=zh hgr;have hob:=m8 hgr;have hss:=G9 hgr m n;have hcs:=r9 (l7 l m n);have hk0:0<=knI l m n∧knI l m n<=48:=by
  exact zz135
 have hen:0<=enF l m n∧enF l m n<=7962624:=by
  exact zz148
 have sA:=bb5 l (l7 l m n:Nat);have sD:=db7 l m n;have cA:=fun W (hW:Ext wb W)=>K7 v l (l7 l m n:Nat) W (hg W hW);have cB:=fun W=>A4 (cnt (l7 l m n):Int) om W;have cC:=fun W=>A4 (knI l m n) om W;have cE:=fun W=>A4 (enF l m n) om W;have cD:=fun W (hW:Ext wb W)=>c98 v l m n W (hg W hW);have cK:=fun W (hW:Ext wb W)=>ck0 v l m n W (hg W hW);have cN:=fun W (hW:Ext wb W)=>bz8 v l m n W (hg W hW);have cR:=fun W (hW:Ext wb W)=>cj9 v l m n W (hg W hW);have cT:=fun W (hW:Ext wb W)=>c01 v l m n W (hg W hW);have cS:=fun W=>A9 (l7 l m n) hss W;have sB:=o9 (n:=(cnt (l7 l m n):Int)) om;have sC:=o9 (n:=knI l m n) om;have sE:=o9 (n:=enF l m n) om;have Hv:=zh (j44 hf');obtain⟨A,hA⟩:∃x,x=fsF l (l7 l m n:Nat):=⟨_,rfl⟩;obtain⟨B,hB⟩:∃x,x=o3 (cnt (l7 l m n):Int):=⟨_,rfl⟩;obtain⟨C,hC⟩:=nq (o3 (knI l m n));obtain⟨D,hD⟩:=nq (kcF l m n);obtain⟨E,hE'⟩:∃x,x=o3 (enF l m n):=⟨_,rfl⟩;obtain⟨dr,hdr⟩:=nq (drF l m n);obtain⟨tl,htl⟩:=nq (b74 l m n);rw[<-hA] at cA sA Hv;rw[<-hB] at cB sB Hv;rw[<-hC] at cC sC Hv;rw[<-hD] at cD sD Hv;rw[<-hE'] at cE sE Hv;rw[<-hdr] at cR Hv;rw[<-htl] at cT Hv;obtain⟨kn,hkn⟩:=nq (knI l m n);obtain⟨en,hen'⟩:∃x,x=enF l m n:=⟨_,rfl⟩;obtain⟨cs,hcs'⟩:∃x:Int,x=(cnt (l7 l m n):Int):=⟨_,rfl⟩;rw[<-hkn] at cK cC hk0;rw[<-hen'] at cN cE hen;rw[<-hcs'] at cB cS;clear hA hB hC hD hE' hdr htl hkn hen' hcs' hcs hf;obtain⟨X,hX,hcL⟩:=b70 [(⟨#[112,97,105,114,32,115,117,109]⟩:ByteArray),A,(⟨#[115,105,122,101]⟩:ByteArray),B,(⟨#[98,111,117,110,100]⟩:ByteArray),C,(⟨#[99,97,115,101]⟩:ByteArray),D,(⟨#[101,110,101,114,103,121]⟩:ByteArray),E] (by simp[o8];omega);have hsz0:X.size<=800:=hX ▸ nle (b14 _) (by simp[G4,o8];omega);simp only[List.map_cons,List.map_nil,List.length_cons,List.length_nil,Nat.reduceAdd,Nat.zero_add] at hcL;obtain⟨X1,hX1,hsz1,hcI1⟩:=J0 X dr [(⟨#[100,105,114,101,99,116]⟩:ByteArray)] _ hsz0 (by simp[o8]) (by simp[G4,o8]);simp only[List.map_cons,List.map_nil,List.length_cons,List.length_nil,Nat.reduceAdd,Nat.zero_add] at hcI1;obtain⟨X2,hX2,-,hcI2⟩:=J0 X1 tl [(⟨#[116,105,108,105,110,103]⟩:ByteArray)] _ hsz1 (by simp[o8]) (by simp[G4,o8]);simp only[List.map_cons,List.map_nil,List.length_cons,List.length_nil,Nat.reduceAdd,Nat.zero_add] at hcI2;have Hfin:Hid (plF l m n=X2):=zh (by rw[hX2,hX1,hX,Hv.out];exact (jn0 A B C D E dr tl).symm);clear hsz0 hX hsz1 hX1 hX2 hgr;go_in;go_wp2_with fail;rw[<-Hwb.out];refine (I4 _ _ _ _ _ (hg _ hE) hf').mono ?_;rintro e w1 ⟨rfl,hE'⟩;replace hE:=hE.trans hE';clear hE';go_wp2_with fail;refine (J4 _ _ _ _ _ (hg _ hE) Hgr ha hb').mono ?_;rintro e w2 ⟨rfl,hE'⟩;replace hE:=hE.trans hE';clear hE';have kb:=fun W (hW:Ext w2 W)=>hb W (hE.trans hW);go_wp2_with fail;have hD:=(er w2).drew;first | (go_region_held3 (fun W=>Ext w2 W∧W.cell? ⟨w.heap.size,0,none⟩=some v) (exact⟨xq,kb _ xq⟩) (first | (go_at_call 106;((with_reducible refine Calls.mono (cA _ (hE.trans xq)) ?_);rintro e wH ⟨rfl,hX⟩;have hH:=Ext.trans (a:=w2) xq hX)) | (go_at_call 98;((first | (with_reducible refine Calls.mono (cB _) ?_) | (with_reducible refine Calls.mono (cC _) ?_) | (with_reducible refine Calls.mono (cE _) ?_));rintro e wH ⟨rfl,hX⟩;have hH:=Ext.trans (a:=w2) xq hX)) | (go_at_call 107;((with_reducible refine Calls.mono (cS _) ?_);rintro e wH ⟨rfl,rfl⟩)) | (go_at_call 120;((with_reducible refine Calls.mono (cK _ (hE.trans xq)) ?_);rintro e wH ⟨rfl,hX⟩;have hH:=Ext.trans (a:=w2) xq hX)) | (go_at_call 121;((with_reducible refine Calls.mono (cD _ (hE.trans xq)) ?_);rintro e wH ⟨rfl,hX⟩;have hH:=Ext.trans (a:=w2) xq hX)) | (go_at_call 112;((with_reducible refine Calls.mono (cN _ (hE.trans xq)) ?_);rintro e wH ⟨rfl,hX⟩;have hH:=Ext.trans (a:=w2) xq hX)) | (go_at_call 96;((with_reducible refine Calls.mono (hcL _) ?_);rintro e wL ⟨rfl,hX⟩;have hHL:=Ext.trans (a:=w2) xq hX)))) | (fail "the region")
 have hEL:=hE.trans hHL;go_wp2_with (first | (go_at_call 122;refine (cR _ hEL).mono ?_;rintro e w5 ⟨rfl,hE5⟩;have hE5b:=hEL.trans hE5) | (go_at_call 123;refine (cT _ hE6b).mono ?_;rintro e w7 ⟨rfl,hE7⟩;have hE7b:=hE6b.trans hE7) | (go_at_call 102;with_reducible refine Calls.mono (hcI1 _) ?_;rintro e w6 ⟨rfl,hE6⟩;have hE6b:=hE5b.trans (Ext.trans ((er _).alloc _) hE6)) | (go_at_call 102;with_reducible refine Calls.mono (hcI2 _) ?_;rintro e w8 ⟨rfl,hE8⟩;have hE8b:=hE7b.trans (Ext.trans ((er _).alloc _) hE8)));go_ret;exact⟨j9 Hfin.out.symm,hE0.trans hE8b⟩
def b93(x:Int):Bool:=inB x (-9) 9&&decide (x≠0)
def eqB(c:List Int):Bool:=c.all b93&&inB c.length 2 4
theorem c78{c:List Int}{k:Nat}(hk:k<c.length)(h:b93 (nth c k)=false):eqB c=false:=by
 unfold eqB;rw[Bool.and_eq_false_iff];refine Or.inl (Bool.not_eq_true _ ▸ fun e=>?_);rw[List.all_eq_true] at e;rw[e _ (b49 hk)] at h;cases h
theorem dp0{c:List Int}(h:∀j,j<c.length->b93 (nth c j)=true):eqB c=inB c.length 2 4:=by
 unfold eqB;have:c.all b93=true:=by
  rw[List.all_eq_true];intro x hx;obtain⟨k,hk,rfl⟩:=bb8 hx;exact h k hk
 rw[this];rfl
theorem T5{c:List Int}(h:eqB c=true):2<=c.length∧c.length<=4∧∀j,j<c.length -> -9<=nth c j∧nth c j<=9∧nth c j≠0:=by
 unfold eqB at h;rw[Bool.and_eq_true,Z9] at h;refine⟨om,om,fun j hj=>?_⟩;have:=List.all_eq_true.1 h.1 _ (b49 hj);unfold b93 at this;rw[Bool.and_eq_true,Z9,decide_eq_true_iff] at this;exact⟨this.1.1,this.1.2,this.2⟩
theorem bq5{c:List Int}(h:eqB c=true)(j:Nat) : -9<=nth c j∧nth c j<=9:=by
 by_cases hj:j<c.length
 . have:=(T5 h).2.2 j hj;omega
 . have:nth c j=0:=(by simp[nth,List.getD,List.getElem?_eq_none (Nat.le_of_not_lt hj)]);omega
def K6(l:List Int):Int:=l.foldl (fun s x=>s+x) 0
theorem d04(l:List Int)(x:Int):K6 (l++[x])=K6 l+x:=by unfold K6;rw[List.foldl_append];rfl
theorem d05(l:List Int)(k:Nat)(hk:k<l.length):K6 (l.take (k+1))=K6 (l.take k)+nth l k:=by rw[dh5 l k hk,d04]
theorem cu5(l:List Int)(h:∀x∈l,-9<=x∧x<=9):∀k,k<=l.length -> -9*(k:Int)<=K6 (l.take k)∧K6 (l.take k)<=9*(k:Int)
 | 0,_=>by simp[K6]
 | k+1,hk=>by
  have ih:=cu5 l h k om
  have:=h _ (b49 (l:=l) (k:=k) om)
  rw[d05 l k om];omega
theorem c41{c:List Int}(h:eqB c=true)(m k:Nat):∀x∈G8 c m k,-9<=x∧x<=9:=fun x hx=>by
 unfold G8 at hx
 rw[List.mem_map] at hx
 obtain⟨j,-,rfl⟩:=hx
 exact bq5 h j
theorem jo3{c:List Int}(h:eqB c=true)(m k:Nat)(hk:k<=4) : -36<=K6 (G8 c m k)∧K6 (G8 c m k)<=36:=by
 have h1:=cu5 _ (c41 h m k) (G8 c m k).length (Nat.le_refl _);rw[List.take_length] at h1;have:=bg0 c m k;omega
def zcF(c:List Int):Option Nat:=if eqB c then (List.range (pw c.length)).find? (fun m=>decide (1<=m)&&decide (K6 (O8 c m)=0)) else none
def zcB(c:List Int):Bool:=(zcF c).isSome
def zcL(c:List Int):List Nat:=match zcF c with | some m=>j7 m | none=>[]
theorem ji3{c:List Int}(h:eqB c=false):zcB c=false∧zcL c=[]:=by
 have:zcF c=none:=by unfold zcF;rw[h];rfl
 unfold zcB zcL;rw[this];exact⟨rfl,rfl⟩
theorem ji2{c:List Int}(h:eqB c=true){m:Nat}(hm:m<pw c.length)(h1:1<=m)(h0:∀j,1<=j->j<m->¬K6 (O8 c j)=0)(hz:K6 (O8 c m)=0):zcB c=true∧zcL c=j7 m:=by
 have:zcF c=some m:=by
  unfold zcF;rw[if_pos h];exact bb2 hm (fun j hj=>by
   by_cases e:1<=j
   . rw[decide_eq_false (h0 j e hj)];simp
   . rw[decide_eq_false e];rfl) (by rw[decide_eq_true h1,decide_eq_true hz];rfl)
 unfold zcB zcL;rw[this];exact⟨rfl,rfl⟩
theorem dt2{c:List Int}(h:eqB c=true)(h0:∀j,1<=j->j<pw c.length->¬K6 (O8 c j)=0):zcB c=false∧zcL c=[]:=by
 have:zcF c=none:=by
  unfold zcF;rw[if_pos h];exact b79 (fun j hj=>by
   by_cases e:1<=j
   . rw[decide_eq_false (h0 j e hj)];simp
   . rw[decide_eq_false e];rfl)
 unfold zcB zcL;rw[this];exact⟨rfl,rfl⟩
def b10(c:List Int)(X:List Nat):Nat->Int
 | 0=>0
 | k+1=>b10 c X k+nth c k*(d8 X k:Int)
theorem bf5(c:List Int)(X:List Nat)(k:Nat):b10 c X (k+1)=b10 c X k+nth c k*(d8 X k:Int):=rfl
theorem ch1{X:List Nat}{y k:Nat}(hk:k<X.length):d8 (X++[y]) k=d8 X k:=by simp[d8,List.getD,hk,List.getElem?_append_left hk]
theorem dd4(X:List Nat)(y:Nat):d8 (X++[y]) X.length=y:=by simp[d8,List.getD]
theorem cw6(c:List Int)(X:List Nat)(y:Nat):∀k,k<=X.length->b10 c (X++[y]) k=b10 c X k
 | 0,_=>rfl
 | k+1,h=>by rw[bf5,bf5,cw6 c X y k om,ch1 om]
def T4(c:List Int)(X:List Nat):Int:=b10 c X X.length
theorem cw5(c:List Int)(X:List Nat)(y:Nat):T4 c (X++[y])=T4 c X+nth c X.length*(y:Int):=by
 unfold T4;rw[List.length_append,List.length_singleton,bf5,cw6 c X y X.length (Nat.le_refl _),dd4]
theorem cm8{a:Int}{y:Nat}(h1 : -9<=a)(h2:a<=9)(hy:y<=12) : -108<=a*(y:Int)∧a*(y:Int)<=108:=by
 have h3:(0:Int)<=y:=om;have h4:a*(y:Int)<=9*(y:Int):=Int.mul_le_mul_of_nonneg_right h2 h3;have h5 : -9*(y:Int)<=a*(y:Int):=Int.mul_le_mul_of_nonneg_right h1 h3;omega
theorem bv4{c:List Int}(h:eqB c=true){X:List Nat}(hX:∀x∈X,x<=12):∀k,k<=X.length -> -108*(k:Int)<=b10 c X k∧b10 c X k<=108*(k:Int)
 | 0,_=>by simp[b10]
 | k+1,hk=>by
  have ih:=bv4 h hX k om
  have h1:=bq5 h k
  have h2:=cm8 h1.1 h1.2 (hX _ (o6 (L:=X) (k:=k) om))
  rw[bf5];omega
def okC(cs:List Int)(X:List Nat)(y:Nat):Bool:=cs.isEmpty || X.isEmpty || decide (nth cs (y - 1)=nth cs (d8 X 0 - 1))
def C5(c:List Int)(n:Nat)(cs:List Int):Nat->List Nat->Nat
 | 0,X=>if T4 c X=0 then 1 else 0
 | r+1,X=>(List.range n).foldl (fun s y=>s+if okC cs X (y+1) then C5 c n cs r (X++[y+1]) else 0) 0
def N1(c:List Int)(n:Nat)(cs:List Int)(r:Nat)(X:List Nat)(k:Nat):Nat:=(List.range k).foldl (fun s y=>s+if okC cs X (y+1) then C5 c n cs r (X++[y+1]) else 0) 0
theorem c09(c:List Int)(n:Nat)(cs:List Int)(r:Nat)(X:List Nat):N1 c n cs r X 0=0:=rfl
theorem bl8(c:List Int)(n:Nat)(cs:List Int)(r:Nat)(X:List Nat)(k:Nat):N1 c n cs r X (k+1)=N1 c n cs r X k+if okC cs X (k+1) then C5 c n cs r (X++[k+1]) else 0:=by
 unfold N1;rw[List.range_succ,List.foldl_append];rfl
theorem do3{c:List Int}{n:Nat}{cs:List Int}{r:Nat}{X:List Nat}{k:Nat}(h:okC cs X (k+1)=false):N1 c n cs r X (k+1)=N1 c n cs r X k:=by rw[bl8,h];rfl
theorem bv1{c:List Int}{n:Nat}{cs:List Int}{r:Nat}{X:List Nat}{k:Nat}(h:okC cs X (k+1)=true):N1 c n cs r X (k+1)=N1 c n cs r X k+C5 c n cs r (X++[k+1]):=by rw[bl8,h];rfl
theorem bl7(c:List Int)(n:Nat)(cs:List Int)(r:Nat)(X:List Nat)(k:Nat):∀d,N1 c n cs r X k<=N1 c n cs r X (k+d)
 | 0=>Nat.le_refl _
 | d+1=>by have:=bl7 c n cs r X k d;rw[<-Nat.add_assoc,bl8];omega
theorem b30(c:List Int)(n:Nat)(cs:List Int)(r:Nat)(X:List Nat):C5 c n cs (r+1) X=N1 c n cs r X n:=rfl
theorem bv0{c:List Int}{n:Nat}{cs:List Int}{X:List Nat}(h:T4 c X=0):C5 c n cs 0 X=1:=by unfold C5;rw[if_pos h]
theorem c74{c:List Int}{n:Nat}{cs:List Int}{X:List Nat}(h:¬T4 c X=0):C5 c n cs 0 X=0:=by unfold C5;rw[if_neg h]
theorem c73(c:List Int)(n:Nat)(cs:List Int):∀r X,C5 c n cs r X<=n ^ r:=by
 intro r;induction r with
 | zero=>intro X;unfold C5;split<;>simp
 | succ r ih =>
  intro X;rw[b30,Nat.pow_succ,Nat.mul_comm];have:∀k,N1 c n cs r X k<=k*n ^ r:=by
   intro k;induction k with
   | zero=>simp[N1]
   | succ k ik =>
    rw[bl8,Nat.succ_mul];have:=ih (X++[k+1]);split<;>omega
  exact this n
def G7(stop:List Nat->Bool)(c:List Int)(n:Nat):Nat->List Nat->Bool
 | 0,X=>decide (T4 c X=0)&&stop X
 | r+1,X=>(List.range n).any (fun y=>G7 stop c n r (X++[y+1]))
theorem b75{stop:List Nat->Bool}{c:List Int}{n:Nat}{X:List Nat}:G7 stop c n 0 X=(decide (T4 c X=0)&&stop X):=rfl
theorem ce2{stop:List Nat->Bool}{c:List Int}{n r k:Nat}{X:List Nat}(hk:k<n)(h:G7 stop c n r (X++[k+1])=true):G7 stop c n (r+1) X=true:=by
 unfold G7;rw[List.any_eq_true];exact⟨k,List.mem_range.2 hk,h⟩
theorem cv3{stop:List Nat->Bool}{c:List Int}{n r:Nat}{X:List Nat}(h:∀k,k<n->G7 stop c n r (X++[k+1])=false):G7 stop c n (r+1) X=false:=by
 unfold G7;rw[List.any_eq_false];intro k hk;rw[h k (List.mem_range.1 hk)];simp
theorem ce3(stop:List Nat->Bool)(c:List Int)(n:Nat):∀r X,G7 stop c n r X=true↔∃Y:List Nat,Y.length=r∧(∀y∈Y,1<=y∧y<=n)∧T4 c (X++Y)=0∧stop (X++Y)=true:=by
 intro r;induction r with
 | zero =>
  intro X;rw[b75,Bool.and_eq_true,decide_eq_true_iff];constructor
  . rintro⟨h1,h2⟩;exact⟨[],rfl,zm,by simpa using h1,by simpa using h2⟩
  . rintro⟨Y,hY,-,h1,h2⟩;have:=List.eq_nil_of_length_eq_zero hY;subst this;rw[List.append_nil] at h1 h2;exact⟨h1,h2⟩
 | succ r ih =>
  intro X;unfold G7;rw[List.any_eq_true];constructor
  . rintro⟨k,hk,h⟩;obtain⟨Y,h1,h2,h3,h4⟩:=(ih _).1 h;have:=List.mem_range.1 hk;refine⟨(k+1) :: Y,by simp[h1],fun y hy=>?_,by simpa using h3,by simpa using h4⟩;rw[List.mem_cons] at hy;rcases hy with rfl | hy
    . omega
    . exact h2 y hy
  . rintro⟨Y,h1,h2,h3,h4⟩;cases Y with
    | nil=>simp at h1
    | cons y Y =>
     have hy:=h2 y zm;refine⟨y - 1,List.mem_range.2 om,(ih _).2 ⟨Y,by simpa using h1,fun z hz=>h2 z (by simp[hz]),?_,?_⟩⟩
     . rw[show y - 1+1=y by omega];simpa using h3
     . rw[show y - 1+1=y by omega];simpa using h4
def X6(cs:List Int)(X:List Nat):Bool:=X.all (fun x=>decide (nth cs (x - 1)=nth cs (d8 X 0 - 1)))
def bk1(cs:List Int)(X:List Nat)(k:Nat):Prop:=∀j,j<k->nth cs (d8 X j - 1)=nth cs (d8 X 0 - 1)
theorem jc2{X:List Nat}{x:Nat}(h:x∈X):∃k,k<X.length∧d8 X k=x:=by
 obtain⟨k,hk,rfl⟩:=List.getElem_of_mem h;exact⟨k,hk,by simp[d8,List.getD,hk]⟩
theorem c58{cs:List Int}{X:List Nat}(h:bk1 cs X X.length):X6 cs X=true:=by
 unfold X6;rw[List.all_eq_true];intro x hx;obtain⟨k,hk,rfl⟩:=jc2 hx;exact decide_eq_true (h k hk)
theorem df7{cs:List Int}{X:List Nat}{k:Nat}(hk:k<X.length)(h:¬nth cs (d8 X k - 1)=nth cs (d8 X 0 - 1)):X6 cs X=false:=by
 rw[<-Bool.not_eq_true];intro e;unfold X6 at e;rw[List.all_eq_true] at e;exact h (of_decide_eq_true (e _ (o6 hk)))
theorem d01{cs:List Int}{X:List Nat}:X6 cs X=true↔bk1 cs X X.length:=by
 constructor
 . intro h j hj;refine Classical.byContradiction fun hn=>?_;rw[df7 hj hn] at h;cases h
 . exact c58
theorem du0(c:List Int)(n:Nat)(cs:List Int)(hcs:cs≠[]):∀r X,bk1 cs X X.length->(0<C5 c n cs r X↔G7 (X6 cs) c n r X=true):=by
 have he:cs.isEmpty=false:=by cases cs with | nil=>exact absurd rfl hcs | cons=>rfl
 intro r;induction r with
 | zero =>
  intro X hX;rw[b75,c58 hX];by_cases h:T4 c X=0
  . rw[bv0 h,decide_eq_true h];simp
  . rw[c74 h,decide_eq_false h];simp
 | succ r ih =>
  intro X hX;have hok:∀y,okC cs X y=true->bk1 cs (X++[y]) (X++[y]).length:=fun y hy j hj=>by
   unfold okC at hy
   rw[he,Bool.false_or,Bool.or_eq_true,decide_eq_true_iff] at hy
   rw[List.length_append,List.length_singleton] at hj
   cases X with
   | nil=>have:j=0:=by simpa using hj
          subst this;rfl
   | cons x X =>
    rcases hy with hy | hy
    . cases hy
    . have e0:d8 ((x :: X)++[y]) 0=d8 (x :: X) 0:=ch1 zm
      by_cases hj2:j<(x :: X).length
      . rw[ch1 hj2,e0];exact hX j hj2
      . have:j=(x :: X).length:=by omega
        subst this
        rw[dd4,e0];exact hy
  have hno:∀y,okC cs X y=false->G7 (X6 cs) c n r (X++[y])=false:=fun y hy=>by
   rw[<-Bool.not_eq_true,ce3]
   rintro⟨Y,-,-,-,h4⟩
   rw[d01] at h4
   unfold okC at hy
   rw[he,Bool.false_or,Bool.or_eq_false_iff,decide_eq_false_iff_not] at hy
   cases X with
   | nil=>simp at hy
   | cons x X =>
    have:=h4 (x :: X).length zm
    apply hy.2
    have e1:d8 ((x :: X)++[y]++Y) (x :: X).length=y:=by simp[d8,List.getD]
    have e2:d8 ((x :: X)++[y]++Y) 0=d8 (x :: X) 0:=by simp[d8,List.getD]
    rw[e1,e2] at this;exact this
  rw[b30];have key:∀k,0<N1 c n cs r X k↔∃y,y<k∧G7 (X6 cs) c n r (X++[y+1])=true:=by
   intro k;induction k with
   | zero=>rw[c09];exact⟨fun h=>absurd h om,fun⟨y,h,_⟩=>absurd h om⟩
   | succ k ik =>
    cases ho:okC cs X (k+1)
    . rw[do3 ho,ik];constructor
      . rintro⟨y,h1,h2⟩;exact⟨y,om,h2⟩
      . rintro⟨y,h1,h2⟩;by_cases e:y=k
        . subst e;rw[hno _ ho] at h2;cases h2
        . exact⟨y,om,h2⟩
    . rw[bv1 ho];have h3:=ih _ (hok _ ho);constructor
      . intro h;by_cases h4:0<N1 c n cs r X k
        . obtain⟨y,h1,h2⟩:=ik.1 h4;exact⟨y,om,h2⟩
        . exact⟨k,om,h3.1 om⟩
      . rintro⟨y,h1,h2⟩;by_cases e:y=k
        . subst e;have:=h3.2 h2;omega
        . have:=ik.2 ⟨y,om,h2⟩;omega
  rw[key n];constructor
  . rintro⟨y,h1,h2⟩;exact ce2 h1 h2
  . intro h;unfold G7 at h;rw[List.any_eq_true] at h;obtain⟨y,h1,h2⟩:=h;exact⟨y,List.mem_range.1 h1,h2⟩
def J5(c cs:List Int):Bool:=G7 (X6 cs) c cs.length c.length []
theorem jc3{c cs:List Int}(hcs:cs≠[]):(0<C5 c cs.length cs c.length [])↔J5 c cs=true:=du0 c cs.length cs hcs _ [] (fun j hj=>absurd hj zm)
theorem jc4{c cs:List Int}(ds:List Int)(hc:0<c.length)(h:J5 c cs=true):J5 c (cs++ds)=true:=by
 unfold J5 at h ⊢;rw[ce3] at h ⊢;obtain⟨Y,h1,h2,h3,h4⟩:=h;refine⟨Y,h1,fun y hy=>?_,h3,?_⟩
 . have:=h2 y hy;rw[List.length_append];omega
 . rw[List.nil_append] at h4 ⊢;rw[d01] at h4 ⊢;intro j hj;have e:∀j,j<Y.length->nth (cs++ds) (d8 Y j - 1)=nth cs (d8 Y j - 1):=fun j hj=>by
    have:=h2 _ (o6 hj)
    simp only[nth,List.getD]
    rw[List.getElem?_append_left om]
   rw[e j hj,e 0 om];exact h4 j hj
def avF(c:List Int)(k n:Nat):Nat->List Int->Bool
 | 0,_=>false
 | f+1,cs=>if decide (cs≠[])&&J5 c cs then false else if cs.length=n then true else (List.range k).any (fun x=>avF c k n f (cs++[(x:Int)]))
theorem d61{c:List Int}{k n f:Nat}{cs:List Int}(h0:cs≠[])(h:J5 c cs=true):avF c k n (f+1) cs=false:=by unfold avF;rw[h,decide_eq_true h0];rfl
theorem d60{c:List Int}{k n f:Nat}{cs:List Int}(h:(decide (cs≠[])&&J5 c cs)=false)(hn:cs.length=n):avF c k n (f+1) cs=true:=by unfold avF;rw[h,if_pos hn];rfl
theorem ce4{c:List Int}{k n f:Nat}{cs:List Int}(h:(decide (cs≠[])&&J5 c cs)=false)(hn:¬cs.length=n):avF c k n (f+1) cs=(List.range k).any (fun x=>avF c k n f (cs++[(x:Int)])):=by
 conv=>lhs;unfold avF
 rw[h,if_neg hn];rfl
def X9(n m:Nat):List Int:=(List.range n).map (fun i=>((m.testBit i).toNat:Int))
theorem bl3(n m:Nat):(X9 n m).length=n:=by simp[X9]
theorem jj1{c:List Int}(hc:0<c.length){n:Nat}(hn:1<=n):∀f cs,cs.length<=n->n<cs.length+f->(avF c 2 n f cs=true↔∃ds:List Int,cs.length+ds.length=n∧(∀d∈ds,d=0∨d=1)∧J5 c (cs++ds)=false):=by
 intro f;induction f with
 | zero=>intro cs h1 h2;omega
 | succ f ih =>
  intro cs h1 h2;cases hm:(decide (cs≠[])&&J5 c cs)
  . by_cases hl:cs.length=n
    . rw[d60 hm hl];have h0:cs≠[]:=(by intro e;subst e;simp at hl;omega);rw[decide_eq_true h0,Bool.true_and] at hm;exact⟨fun _=>⟨[],by simpa using hl,zm,by simpa using hm⟩,fun _=>rfl⟩
    . rw[ce4 hm hl,List.any_eq_true];constructor
      . rintro⟨x,hx,h⟩;have hx2:=List.mem_range.1 hx;obtain⟨ds,e1,e2,e3⟩:=(ih _ (by simp;omega) (by simp;omega)).1 h;refine⟨(x:Int) :: ds,by simp at e1 ⊢;omega,fun d hd=>?_,by simpa using e3⟩;rw[List.mem_cons] at hd;rcases hd with rfl | hd
        . omega
        . exact e2 d hd
      . rintro⟨ds,e1,e2,e3⟩;cases ds with
        | nil=>simp at e1;omega
        | cons d ds =>
         have hd:=e2 d zm;refine⟨d.toNat,List.mem_range.2 om,(ih _ (by simp;omega) (by simp;omega)).2 ⟨ds,by simp at e1 ⊢;omega,fun z hz=>e2 z (by simp[hz]),?_⟩⟩;rw[show ((d.toNat:Nat):Int)=d by omega];simpa using e3
  . rw[Bool.and_eq_true,decide_eq_true_iff] at hm;rw[d61 hm.1 hm.2];constructor
    . intro h;cases h
    . rintro⟨ds,-,-,e3⟩;rw[jc4 ds hc hm.2] at e3;cases e3
theorem dy7:∀(ds:List Int),(∀d∈ds,d=0∨d=1)->∃m,m<2 ^ ds.length∧X9 ds.length m=ds:=by
 intro ds;induction ds with
 | nil=>intro _;exact⟨0,zm,rfl⟩
 | cons d ds ih =>
  intro h;obtain⟨m,h1,h2⟩:=ih (fun x hx=>h x (by simp[hx]))
  have hd:=h d zm;refine⟨d.toNat+2*m,by rw[List.length_cons,Nat.pow_succ];omega,?_⟩;unfold X9 at h2 ⊢;rw[List.length_cons,List.range_succ_eq_map,List.map_cons,List.map_map];congr 1
  . rw[Nat.testBit_zero];rcases hd with rfl | rfl
    . simp
    . have:(Int.toNat 1+2*m) % 2=1:=(by simp);rw[this];rfl
  . conv=>rhs;rw[<-h2]
    apply List.map_congr_left;intro i _;show (((d.toNat+2*m).testBit (i+1)).toNat:Int)=_;rw[Nat.testBit_succ,show (d.toNat+2*m) / 2=m by omega]
theorem cv4{c:List Int}(hc:0<c.length){n:Nat}(hn:1<=n):avF c 2 n (n+1) []=true↔∃m,m<2 ^ n∧J5 c (X9 n m)=false:=by
 rw[jj1 hc hn _ _ zm zm];constructor
 . rintro⟨ds,h1,h2,h3⟩;simp at h1;obtain⟨m,e1,e2⟩:=dy7 ds h2;rw[h1] at e1 e2;exact⟨m,e1,by rw[e2];simpa using h3⟩
 . rintro⟨m,h1,h2⟩;refine⟨X9 n m,by simp[bl3],fun d hd=>?_,by simpa using h2⟩;unfold X9 at hd;rw[List.mem_map] at hd;obtain⟨i,-,rfl⟩:=hd;cases m.testBit i
   . exact Or.inl rfl
   . exact Or.inr rfl
def b89(c:List Int)(n:Nat):Bool:=(List.range (pw n)).all (fun m=>J5 c (X9 n m))
theorem dm7{c:List Int}{n m:Nat}(hm:m<pw n)(h:J5 c (X9 n m)=false):b89 c n=false:=by
 rw[<-Bool.not_eq_true];intro e;unfold b89 at e;rw[List.all_eq_true] at e;rw[e m (List.mem_range.2 hm)] at h;cases h
theorem j86{c:List Int}{n:Nat}(h:∀m,m<pw n->J5 c (X9 n m)=true):b89 c n=true:=by
 unfold b89;rw[List.all_eq_true];intro m hm;exact h m (List.mem_range.1 hm)
theorem ji5{c:List Int}(hc:0<c.length){n:Nat}(hn:1<=n):avF c 2 n (n+1) [] = !b89 c n:=by
 cases h:b89 c n
 . rw[Bool.not_false,cv4 hc hn];unfold b89 at h;rw[List.all_eq_false] at h;obtain⟨m,h1,h2⟩:=h;exact⟨m,List.mem_range.1 h1,by simpa using h2⟩
 . rw[Bool.not_true,<-Bool.not_eq_true,cv4 hc hn];rintro⟨m,h1,h2⟩;rw[dm7 h1 h2] at h;cases h
def je3(c:List Int):Option Nat:=(List.range 9).find? (fun n=>b89 c (n+1))
def W9(c:List Int):Int:=if eqB c&&decide (c.length<=3) then (match je3 c with | some n=>(n:Int)+1 | none=>0) else -1
theorem j47{c:List Int}(h:eqB c=true)(h3:c.length<=3){n:Nat}(hn:n<9)(h0:∀j,j<n->b89 c (j+1)=false)(h1:b89 c (n+1)=true):W9 c=(n:Int)+1:=by
 unfold W9 je3;rw[h,decide_eq_true h3,bb2 hn h0 h1];rfl
theorem de8{c:List Int}(h:eqB c=true)(h3:c.length<=3)(h0:∀j,j<9->b89 c (j+1)=false):W9 c=0:=by
 unfold W9 je3;rw[h,decide_eq_true h3,b79 h0];rfl
theorem co0{c:List Int}(h:eqB c=false∨¬c.length<=3):W9 c = -1:=by
 unfold W9;rcases h with h | h
 . rw[h];rfl
 . rw[decide_eq_false h,Bool.and_false];rfl
theorem d75:b93 0=false:=by decide
theorem do5{x:Int}(h:inB x (-9) 9=false):b93 x=false:=by unfold b93;rw[h];rfl
theorem dz8{x:Int}(h:inB x (-9) 9=true)(h0:¬x=0):b93 x=true:=by unfold b93;rw[h];simp[h0]
theorem zz144{P:Prop}(h:P:=by go_roundw;(case rel=>exact⟨k+1,om,zg,zh fun j hj=>by by_cases e:j=k;(subst e;exact Hn.out);exact H.out j om,hE⟩);case measure=>exact zm1):P:=h
theorem zz146{P:Prop}(h:P:=by go_ret;exact⟨j5 Hs.out.symm,hE⟩):P:=h
theorem b01(u:Value)(c:List Int)(w:World)(hu:c9 w u c) :
 Calls Tryz.prog 150 #[u] w fun e w'=>e=.returned (.bool (eqB c))∧Ext w w':=by
 obtain⟨ao,cc,adr,rfl,hlen,hadr,hcell⟩:=hu.op;have hix:=j3 (c:=cc) elI szI hadr;have Hcell:=zh hcell;have hE:=er w;clear hadr hu hcell;go_in;go_wp2_with fail;go_loopw [7] (fun si wr=>∃k:Nat,k<=c.length∧si=.int .i64 k∧Hid (∀j,j<k->b93 (nth c j)=true)∧Ext w wr) (fun si _=>c.length - (intOf si).toNat);case atStart=>exact⟨0,om,rfl,zh om,hE⟩
 case round =>
  clear hE;rename World=>wr;obtain⟨k,hk,rfl,H,hE⟩:=hrel;by_cases hlt:k<c.length
  . have hck:=Hcell.out k wr hlt hE;obtain⟨Y,hY⟩:=nq (nth c k);rw[<-hY] at hck;have cW:=fun W=>P1 Y (-9) 9 W;by_cases h0:Y=0
    . have Hs:Hid (eqB c=false):=zh (c78 hlt (by rw[<-hY,h0];exact d75));rw[h0] at hck cW;clear hY h0;have cW0:∀W,Calls Tryz.prog 206 #[.int .i64 0,.int .i64 (-9),.int .i64 9] W fun e w'=>e=.returned (.bool true)∧W=w':=cW;clear cW;go_wp2_with (go_at_call 206;refine (cW0 _).mono ?_;rintro e' w' ⟨rfl,rfl⟩);exact zz146
    . have hq:(Y == 0)=false:=(by rw[beq_eq_false_iff_ne];exact h0);cases hi:inB Y (-9) 9
      . have Hs:Hid (eqB c=false):=zh (c78 hlt (by rw[<-hY];exact do5 hi));rw[hi] at cW;clear hY h0 hi;go_wp2_with (go_at_call 206;refine (cW _).mono ?_;rintro e' w' ⟨rfl,rfl⟩);exact zz146
      . have Hn:Hid (b93 (nth c k)=true):=zh (by rw[<-hY];exact dz8 hi h0);rw[hi] at cW;clear hY h0 hi;go_wp2_with (go_at_call 206;refine (cW _).mono ?_;rintro e' w' ⟨rfl,rfl⟩);exact zz144
  . have hkl:k=c.length:=(by omega);have Hs:Hid (eqB c=inB c.length 2 4):=zh (dp0 fun j hj=>H.out j om);have cW:=fun W=>P1 (c.length:Nat) 2 4 W;clear hkl;go_wp2_with (go_at_call 206;refine (cW _).mono ?_;rintro e' w' ⟨rfl,rfl⟩);exact zz146
theorem b58(u:Value)(c:List Int)(w:World)(hu:c9 w u c) :
 Calls Tryz.prog 154 #[u] w fun e w'=>e=.returned (.bool (eqB c))∧Ext w w':=by
 obtain⟨ao,cc,adr,rfl,hlen,hadr,hcell⟩:=hu.op;have hix:=j3 (c:=cc) elI szI hadr;have Hcell:=zh hcell;have hE:=er w;clear hadr hu hcell;go_in;go_wp2_with fail;go_loopw [3] (fun si wr=>∃k:Nat,k<=c.length∧si=.int .i64 k∧Hid (∀j,j<k->b93 (nth c j)=true)∧Ext w wr) (fun si _=>c.length - (intOf si).toNat);case atStart=>exact⟨0,om,rfl,zh om,hE⟩
 case round =>
  clear hE;rename World=>wr;obtain⟨k,hk,rfl,H,hE⟩:=hrel;by_cases hlt:k<c.length
  . have hck:=Hcell.out k wr hlt hE;obtain⟨Y,hY⟩:=nq (nth c k);rw[<-hY] at hck;have cW:=fun W=>Q8 Y (-9) 9 W;by_cases h0:Y=0
    . have Hs:Hid (eqB c=false):=zh (c78 hlt (by rw[<-hY,h0];exact d75));rw[h0] at hck cW;clear hY h0;have cW0:∀W,Calls Tryz.prog 164 #[.int .i64 0,.int .i64 (-9),.int .i64 9] W fun e w'=>e=.returned (.bool true)∧W=w':=cW;clear cW;go_wp2_with (go_at_call 164;refine (cW0 _).mono ?_;rintro e' w' ⟨rfl,rfl⟩);exact zz146
    . have hq:(Y == 0)=false:=(by rw[beq_eq_false_iff_ne];exact h0);cases hi:inB Y (-9) 9
      . have Hs:Hid (eqB c=false):=zh (c78 hlt (by rw[<-hY];exact do5 hi));rw[hi] at cW;clear hY h0 hi;go_wp2_with (go_at_call 164;refine (cW _).mono ?_;rintro e' w' ⟨rfl,rfl⟩);exact zz146
      . have Hn:Hid (b93 (nth c k)=true):=zh (by rw[<-hY];exact dz8 hi h0);rw[hi] at cW;clear hY h0 hi;go_wp2_with (go_at_call 164;refine (cW _).mono ?_;rintro e' w' ⟨rfl,rfl⟩);exact zz144
  . have hkl:k=c.length:=(by omega);have Hs:Hid (eqB c=inB c.length 2 4):=zh (dp0 fun j hj=>H.out j om);have cW:=fun W=>Q8 (c.length:Nat) 2 4 W;clear hkl;go_wp2_with (go_at_call 164;refine (cW _).mono ?_;rintro e' w' ⟨rfl,rfl⟩);exact zz146
theorem zz103{P:Prop}(h:P:=by go_wp2_with fail;go_roundw;(case rel=>exact⟨k+1,om,zg,by rw[hn.out],hEq⟩);case measure=>exact zm1):P:=h
theorem zz114{P:Prop}(h:P:=by clear hz;go_wp2_with fail;go_roundw;(case rel=>exact⟨m+1,om,om,zg,zh fun j h1 h2=>by by_cases e:j=m;(subst e;exact Hz.out);exact H.out j h1 om,hEf⟩);case measure=>exact zm1):P:=h
theorem ck4(u:Value)(c:List Int)(w:World)(hu:c9 w u c) :
 Calls Tryz.prog 152 #[u] w fun e w'=>∃v',e=.returned (.tuple #[v',.bool (zcB c)])∧Own 3 w w' v' (b9 (zcL c))∧Ext w w':=by
 have cE:=b01 u c w hu;have HU:=zh (fun W (hW:Ext w W)=>hu.ext hW);obtain⟨ao,cc,rfl,-⟩:=hu;cases he:eqB c
 . have Hz:=zh (ji3 he);rw[he] at cE;go_in;go_wp2_with fail;refine cE.mono ?_;rintro e w1 ⟨rfl,hE1⟩;go_wp2_with fail;rw[Hz.out.1,Hz.out.2];exact bodyPost_ret (v:=.tuple #[.slice (some ⟨w1.heap.size,0,none⟩) 0 0,.bool false]) (by simp[results,Tryz.results152,go_sem]) rfl ⟨_,rfl,m7 (TI:=3) (n:=0) om hE1 [] rfl,Ext.alloc hE1 _⟩
 have hcl:=T5 he;have h4:c.length<=4:=hcl.2.1;have hpw:=b51 (n:=c.length) om;have hpw4:pw c.length<=16:=Nat.pow_le_pow_right (n:=2) om h4;have hpw1:=T3 c.length;have hs1:=p6 (n:=c.length) om;have He:=zh he;rw[he] at cE;clear he hcl;go_in;go_wp2_with fail;refine cE.mono ?_;rintro e w1 ⟨rfl,hE1⟩;go_wp2_with fail;go_loopw [4] (fun sm wr=>∃m:Nat,1<=m∧m<=pw c.length∧sm=.int .i64 m∧Hid (∀j,1<=j->j<m->¬K6 (O8 c j)=0)∧Ext w wr) (fun sm _=>pw c.length - (intOf sm).toNat);case atStart=>exact⟨1,om,om,rfl,zh om,hE1⟩
 case round =>
  clear hE1;rename World=>wr;obtain⟨m,hm1,hm2,rfl,H,hE⟩:=hrel;by_cases hlt:m<pw c.length
  . have hcP:=de0 _ c m wr (HU.out wr hE) om om;go_wp2_with (go_at_call 242;refine hcP.mono ?_;rintro e w2 ⟨vP,rfl,hO,hE2⟩;obtain⟨aP,cP,adP,rfl,hlP,hadP,hcP2⟩:=hO.ints.op);have hixP:=j3 (c:=cP) elI szI hadP;have HcP:=zh hcP2;have hE02:=hE.trans hE2;have hP4:=bg0 c m c.length;have hPb:∀k,k<=(O8 c m).length -> -36<=K6 ((O8 c m).take k)∧K6 ((O8 c m).take k)<=36:=fun k hk=>by
     have h6:=cu5 (O8 c m) (c41 He.out m c.length) k hk
     have h5:(O8 c m).length<=c.length:=hP4
     omega
    have hPe:∀k,-9<=nth (O8 c m) k∧nth (O8 c m) k<=9:=fun k=>by
     by_cases hk:k<(O8 c m).length
     . exact c41 He.out m c.length _ (b49 hk)
     . have:nth (O8 c m) k=0:=by simp[nth,List.getD,List.getElem?_eq_none (Nat.le_of_not_lt hk)]
       omega
    obtain⟨P,hP⟩:=nq (O8 c m);have HP:=zh hP;rw[<-hP] at hlP hadP HcP hixP hPb hPe;have hp4:P.length<=4:=(by rw[hP];exact nle hP4 h4);have HPb:=zh hPb;have HPe:=zh hPe;rw[<-hP];clear hcP hcP2 hadP hO hP hPb hPe hP4;go_loopw [5,23] (fun ss sk wq=>∃k:Nat,k<=P.length∧sk=.int .i64 k∧ss=.int .i64 (K6 (P.take k))∧Ext w2 wq) (fun _ sk _=>P.length - (intOf sk).toNat);(case atStart=>exact⟨0,om,rfl,rfl,er _⟩);case round =>
     rename World=>wq;obtain⟨k,hk,rfl,rfl,hEq⟩:=hrel;have hb:=HPb.out k hk;by_cases hkl:k<P.length
     . have hck:=HcP.out k wq hkl hEq;have hy:=HPe.out k;have hn:Hid (K6 (P.take (k+1))=K6 (P.take k)+nth P k):=zh (d05 P k hkl);obtain⟨Y,hY⟩:=nq (nth P k);obtain⟨S,hS⟩:=nq (K6 (P.take k));rw[<-hY] at hck hy hn;rw[<-hS] at hb hn;rw[<-hS];have hw:IntKind.i64.wrap (S+Y)=S+Y:=IntWalk.i64_in _ om;clear hY hS;exact zz103
     . have hkl2:P.take k=P:=List.take_of_length_le om;have hbz:((P.take k).length=(P.take k).length):=rfl;rw[hkl2] at hb;rw[hkl2];have hEf:=hE02.trans hEq;by_cases hz:K6 P=0
       . have Hz:=zh (ji2 He.out hlt hm1 H.out (by rw[<-HP.out];exact hz));rw[hz];clear hz;go_wp2_with (go_at_call 214;refine (I5 m om _).mono ?_;rintro e w3 ⟨v3,rfl,hO3,hE3⟩);rw[Hz.out.1,Hz.out.2];exact bodyPost_ret (v:=.tuple #[v3,.bool true]) (by simp[results,Tryz.results152,go_sem]) rfl ⟨_,rfl,hO3.mono hEf,hEf.trans hE3⟩
       . have hzq:(K6 P == 0)=false:=(by rw[beq_eq_false_iff_ne];exact hz);have Hz:Hid (¬K6 (O8 c m)=0):=zh (by rw[<-HP.out];exact hz);exact zz114
  . have Hz:=zh (dt2 He.out fun j h1 h2=>H.out j h1 om);go_wp2_with fail;rw[Hz.out.1,Hz.out.2];exact bodyPost_ret (v:=.tuple #[.slice (some ⟨wr.heap.size,0,none⟩) 0 0,.bool false]) (by simp[results,Tryz.results152,go_sem]) rfl ⟨_,rfl,m7 (TI:=3) (n:=0) om hE [] rfl,Ext.alloc hE _⟩
def N9(bR m:Nat)(X:List Nat)(w:World):Prop:=∃Z:List Int,Z.length=m∧Z.take X.length=b9 X∧Blk w bR 3 (Z.map (Value.int .i64)).toArray
theorem N9.ext{bR m:Nat}{X:List Nat}{w w':World}(h:N9 bR m X w)(hE:Ext w w'):N9 bR m X w':=by
 obtain⟨Z,h1,h2,h3⟩:=h;exact⟨Z,h1,h2,h3.ext hE⟩
theorem N9.free{bR m:Nat}{X:List Nat}{w:World}(h:N9 bR m X w)(i:Nat):w.frozen? ⟨bR,i,none⟩=false:=by
 obtain⟨Z,h1,h2,h3⟩:=h;exact h3.free i
theorem N9.has{bR m:Nat}{X:List Nat}{w:World}(h:N9 bR m X w){i:Nat}(hi:i<m):∃v,w.cell? ⟨bR,i,none⟩=some v:=by
 obtain⟨Z,h1,h2,h3⟩:=h;exact⟨.int .i64 (nth Z i),h3.cell (i:=i) (by simp[nth,List.getD,show i<Z.length by omega])⟩
theorem N9.set{bR m:Nat}{X:List Nat}{w:World}(h:N9 bR m X w)(hX:X.length<m)(y:Nat):N9 bR m (X++[y]) (w.setCell ⟨bR,X.length,none⟩ (.int .i64 (y:Int))):=by
 obtain⟨Z,h1,h2,h3⟩:=h;refine⟨Z.set X.length (y:Int),by simpa using h1,?_,?_⟩
 . rw[List.length_append,List.length_singleton,D5,<-h2,List.take_succ_eq_append_getElem (by simp;omega)];simp[List.take_set_of_le]
 . have:=h3.set X.length (.int .i64 (y:Int));simpa[List.map_set] using this
theorem N9.back{bR m:Nat}{X:List Nat}{w:World}{y:Nat}(h:N9 bR m (X++[y]) w):N9 bR m X w:=by
 obtain⟨Z,h1,h2,h3⟩:=h;refine⟨Z,h1,?_,h3⟩;have:=congrArg (List.take X.length) h2;rw[List.take_take,D5] at this;simp at this;rw[this];have e:(b9 X).length=X.length:=j2 X;rw[<-e];simp
theorem N9.ints{bR m:Nat}{X:List Nat}{w:World}(h:N9 bR m X w)(hX:X.length=m)(hm:m<=1000):c9 w (.slice (some ⟨bR,0,none⟩) m m) (b9 X):=by
 obtain⟨Z,h1,h2,h3⟩:=h;have hZ:Z=b9 X:=by rw[<-h2,List.take_of_length_le om]
 subst hZ;refine⟨_,m,by rw[h1],om,om,fun i hi=>⟨_,rfl,?_⟩⟩;rw[Addr.add_lit,Nat.zero_add];exact h3.cell (i:=i) (by simp[nth,List.getD,hi])
theorem zz29{P:Prop}(h:P:=by rw[hAq] at cR;have HAq:=zh hAq;clear hAq;go_wp2_with fail;rw[<-Hw1.out];go_still_tail 11,(by kernel_rfl);change wpList _ _ _ _ _ (World.drew _);go_wp2_with (go_at_call 316;refine (cR _ ((er w1).drew)).mono ?_;rintro e w2 ⟨rfl,hR2,hF2,hG2⟩;replace hF2:=hF2 (by trivial);clear hG2);have hst2:=hF2;go_roundw;(case rel=>exact⟨q+1,om,om,zg,hR2.back,by rw[show q+1 - 1=q by omega,HKy.out,<-Nat.add_assoc,<-HSd.out];exact hst2,zh fun j hj=>by by_cases e:j+1=q;(rw[e];exact HAq.out);exact HN.out j om⟩);case measure=>exact zm1):P:=h
theorem zz38{P:Prop}(h:P:=by rw[hAq] at cR;have HA:Hid (G7 stop c n (r+1) X=true):=zh (ce2 (k:=q - 1) om (by rw[show q - 1+1=q by omega];exact hAq));clear hAq;go_wp2_with fail;rw[<-Hw1.out];go_still_tail 11,(by kernel_rfl);change wpList _ _ _ _ _ (World.drew _);go_wp2_with (go_at_call 316;refine (cR _ ((er w1).drew)).mono ?_;rintro e w2 ⟨rfl,hR2,hF2,hG2⟩;replace hG2:=hG2 (by trivial);clear hF2);go_ret;exact⟨j5 HA.out.symm,hR2.back,(fun e=>by rw[HA.out] at e;cases e),fun _=>hG2⟩):P:=h
theorem zz63{P:Prop}(h:P:=by have hqn:q=n+1:=(by omega);have hA:Hid (G7 stop c n (r+1) X=false):=zh (cv3 fun j hj=>HN.out j om);have hC:Hid (C5 c n [] (r+1) X=N1 c n [] r X (q - 1)):=zh (by rw[b30,hqn];rfl);have hleI:¬(q:Int)<=(n:Int):=om;go_wp2_with fail;go_ret;exact⟨j5 hA.out.symm,hrow,fun _=>by rw[hC.out];exact hst,fun e=>by rw[hA.out] at e;cases e⟩):P:=h
theorem zz163{P:Prop}(h:P:=by have h1:=HkK.out;rw[b30] at h1;have h2:=bl7 c n [] r X q (n - q);rw[show q+(n - q)=n by omega] at h2;have h3:=HKy.out;omega):P:=h
theorem jn9(c:List Int)(n:Nat)(hc:Hid (eqB c=true))(hn:n<=12)(bC bK bX bN bT bR:Nat)(aoC:Option Addr)(cC:Nat)(p1 p2:Value)(K:Nat)
 (St:Nat->World->Prop) (Fin:World->Prop) (stop:List Nat->Bool)
 (hS:∀k w,St k w->w.cell? ⟨bC,0,none⟩=some (.slice aoC c.length cC)∧w.cell? ⟨bK,0,none⟩=some (.func (.func 255) #[] #[p1])∧w.cell? ⟨bX,0,none⟩=some (.slice (some ⟨bR,0,none⟩) c.length c.length)∧w.cell? ⟨bN,0,none⟩=some (.int .i64 n)∧w.cell? ⟨bT,0,none⟩=some (.func (.func 316) #[] #[.pointer (some ⟨bC,0,none⟩),.pointer (some ⟨bK,0,none⟩),.pointer (some ⟨bX,0,none⟩),.pointer (some ⟨bN,0,none⟩),.pointer (some ⟨bT,0,none⟩)])∧c9 w (.slice aoC c.length cC) c)
 (hset:∀k w i v,St k w->St k (w.setCell ⟨bR,i,none⟩ v)) (hext:∀k w W,St k w->Ext w W->St k W)
 (hTake:∀k w X,k<K->St k w->N9 bR c.length X w->X.length=c.length->(∀x∈X,1<=x∧x<=n)->Calls Tryz.prog 255 #[.slice (some ⟨bR,0,none⟩) c.length c.length,p1] w fun e w'=>e=.returned (.bool (stop X))∧N9 bR c.length X w'∧(stop X=false->St (k+1) w')∧(stop X=true->Fin w')) :
 ∀r X k w,X.length+r=c.length->(∀x∈X,1<=x∧x<=n)->k+C5 c n [] r X<=K->St k w->N9 bR c.length X w ->
 Calls Tryz.prog 316 #[.int .i64 X.length,.int .i64 (T4 c X),.pointer (some ⟨bC,0,none⟩),.pointer (some ⟨bK,0,none⟩),.pointer (some ⟨bX,0,none⟩),.pointer (some ⟨bN,0,none⟩),.pointer (some ⟨bT,0,none⟩)] w fun e w' =>
  e=.returned (.bool (G7 stop c n r X))∧N9 bR c.length X w'∧(G7 stop c n r X=false->St (k+C5 c n [] r X) w')∧(G7 stop c n r X=true->Fin w'):=by
 have h4:=(T5 hc.out).2.1
 intro r
 induction r with
 | zero =>
  intro X k w hr hX hkK hst hrow
  obtain⟨k1,k2,k3,k4,k5,-⟩:=hS k w hst
  have hq:(((X.length:Nat):Int) == ((c.length:Nat):Int))=true:=by rw[beq_iff_eq];omega
  by_cases hd:T4 c X=0
  . have hA:Hid (G7 stop c n 0 X=stop X):=zh (by rw[b75,decide_eq_true hd,Bool.true_and])
    have hN:Hid (C5 c n [] 0 X=1):=zh (bv0 hd)
    have cT:=hTake k w X (by rw[hN.out] at hkK;omega) hst hrow om hX
    rw[hd]
    clear hd hTake
    go_in
    go_wp2_with (go_at_call 255;refine cT.mono ?_;rintro e w1 ⟨rfl,hR1,hF1,hG1⟩)
    go_ret
    exact⟨j5 hA.out.symm,hR1,by rw[hA.out,hN.out];exact hF1,by rw[hA.out];exact hG1⟩
  . have hA:Hid (G7 stop c n 0 X=false):=zh (by rw[b75,decide_eq_false hd,Bool.false_and])
    have hN:Hid (C5 c n [] 0 X=0):=zh (c74 hd)
    have hdq:(T4 c X == 0)=false:=by rw[beq_eq_false_iff_ne];exact hd
    clear hd hTake
    go_in
    go_wp2_with fail
    go_ret
    exact⟨j5 hA.out.symm,hrow,fun _=>by rw[hN.out];exact hst,fun e=>by rw[hA.out] at e;cases e⟩
 | succ r ih =>
  intro X k w hr hX hkK hst hrow
  have HkK:=zh hkK
  clear hkK
  have Hih:=zh ih
  clear ih hTake
  have hlt:X.length<c.length:=om
  obtain⟨k1,k2,k3,k4,k5,-⟩:=hS k w hst
  have hq:(((X.length:Nat):Int) == ((c.length:Nat):Int))=false:=by rw[beq_eq_false_iff_ne];omega
  have hX12:∀x∈X,x<=12:=fun x hx=>by have:=hX x hx;omega
  have hdb:=bv4 hc.out hX12 X.length (Nat.le_refl _)
  have hD4 : -432<=T4 c X∧T4 c X<=432:=by unfold T4;omega
  have Hsn:=zh (fun y=>cw5 c X y)
  obtain⟨D,hDd⟩:=nq (T4 c X)
  rw[<-hDd] at hD4 Hsn
  rw[<-hDd]
  have hY:=bq5 hc.out X.length
  obtain⟨Y,hYd⟩:=nq (nth c X.length)
  rw[<-hYd] at hY Hsn
  have HYd:=zh hYd
  clear hDd hYd hdb
  have hixR:∀W,(Instr.indexAt 26 (.slice (some ⟨bR,0,none⟩) c.length c.length) (.int .i64 ((X.length:Nat):Int))).run Tryz.prog W=.ok (.pointer (some ⟨bR,X.length,none⟩)) W:=fun W=>by
   rw[run_indexAt_slice (h:=elI),if_pos om,szI]
   exact zz71
  have HS:=zh hS
  have HR:=zh hrow
  have HT:=zh hst
  clear hS hrow hst
  go_in
  go_wp2_with fail
  clear k1 k2 k3 k4 k5
  go_loopw [10] (fun sq wr=>∃q:Nat,1<=q∧q<=n+1∧sq=.int .i64 q∧N9 bR c.length X wr∧St (k+N1 c n [] r X (q - 1)) wr∧Hid (∀j,j+1<q->G7 stop c n r (X++[j+1])=false)) (fun sq _=>n+1 - (intOf sq).toNat)
  case atStart=>exact⟨1,om,om,rfl,HR.out,HT.out,zh om⟩
  case round =>
   clear HR HT;rename World=>wr;obtain⟨q,hq1,hq2,rfl,hrow,hst,HN⟩:=hrel;obtain⟨k1,k2,k3,k4,k5,hI⟩:=HS.out _ _ hst;by_cases hle:q<=n
   . have hleI:(q:Int)<=(n:Int):=(by omega);obtain⟨vz,kz⟩:=hrow.has hlt;have hfz:=hrow.free X.length;have hrow1:=hrow.set hlt q;have hst1:=hset _ _ X.length (.int .i64 (q:Int)) hst;obtain⟨m1,m2,m3,m4,m5,hI1⟩:=HS.out _ _ hst1;obtain⟨w1,hw1⟩:∃w1,w1=wr.setCell ⟨bR,X.length,none⟩ (.int .i64 (q:Int)):=⟨_,rfl⟩;rw[<-hw1] at hrow1 hst1 m1 m2 m3 m4 m5 hI1;obtain⟨aoI,cI,adr,hvI,-,hadr,hcell⟩:=hI1.op;simp only[Value.slice.injEq] at hvI;obtain⟨rfl,-,rfl⟩:=hvI;have hixC:=j3 (c:=cC) elI szI hadr X.length;have hckC:=fun W (hW:Ext w1 W)=>hcell X.length W hlt hW;rw[<-HYd.out] at hckC;have hmb:=cm8 (a:=Y) (y:=q) om om om;have hcm:Y*(q:Int)=(q:Int)*Y:=Int.mul_comm _ _;rw[hcm] at hmb;have hwm:IntKind.i64.wrap ((q:Int)*Y)=(q:Int)*Y:=IntWalk.i64_in _ om;have hws:IntKind.i64.wrap (D+(q:Int)*Y)=D+(q:Int)*Y:=IntWalk.i64_in _ om;have hsn:T4 c (X++[q])=D+(q:Int)*Y:=(by rw[Hsn.out,hcm]);have hwl:IntKind.i64.wrap (((X.length:Nat):Int)+1)=((X.length:Nat):Int)+1:=IntWalk.i64_in _ om;have HKy:Hid (N1 c n [] r X q=N1 c n [] r X (q - 1)+C5 c n [] r (X++[q])):=zh (by
      have:=bv1 (c:=c) (n:=n) (cs:=[]) (r:=r) (X:=X) (k:=q - 1) rfl;rw[show q - 1+1=q by omega] at this;exact this)
     have HKq:k+N1 c n [] r X (q - 1)+C5 c n [] r (X++[q])<=K:=by
      exact zz163
     have cR:=fun W (hW:Ext w1 W)=>Hih.out (X++[q]) _ W (by rw[List.length_append,List.length_singleton];omega) (fun x hx=>by
      rw[List.mem_append,List.mem_singleton] at hx
      rcases hx with hx | rfl
      . exact hX x hx
      . exact⟨hq1,hle⟩) HKq (hext _ _ _ hst1 hW) (hrow1.ext hW)
     rw[hsn] at cR;rw[show (((X++[q]).length:Nat):Int)=((X.length:Nat):Int)+1 by rw[List.length_append,List.length_singleton];omega] at cR;obtain⟨S,hSd⟩:=nq (k+N1 c n [] r X (q - 1));rw[<-hSd] at cR;have HSd:=zh hSd;clear hSd hsn hcm hadr hcell hI hI1 hrow hst;have Hw1:=zh hw1;have hck1:=hckC w1 (er _);clear hw1 hckC;cases hAq:G7 stop c n r (X++[q])
     . exact zz29
     . exact zz38
   . exact zz63
theorem zz159{P:Prop}(h:P:=by refine Or.inr ⟨g,cap,cur,rfl,hg,?_,rest⟩;simp[Value.ownBlock] at hp;rw[Below.heap_setCell _ _ _ _ (fun e=>hp e)];exact hh):P:=h
theorem E7.set_ne{w0 w:World}{v:Value}{n:Nat}(h:E7 w0 w v n){b i:Nat}(hp:v.ownBlock≠some b)(u:Value):E7 w0 (w.setCell ⟨b,i,none⟩ u) v n:=by
 obtain⟨L,h1,h2,h3,h4⟩:=h;refine⟨L,h1,h2,⟨h3.1,?_⟩,h4⟩;rcases h3.2 with h | ⟨g,cap,cur,rfl,hg,hh,rest⟩
 . exact Or.inl h
 . exact zz159
theorem E7.not{T:TypeId}{w0 w:World}{v:Value}{n:Nat}(h:E7 w0 w v n){g:Nat}{cs:Array Value}(hB:Blk w g T cs)(hT:T≠26):v.ownBlock≠some g:=fun e=>by
 obtain⟨L,-,-,h1,-⟩:=h
 rcases h1.2 with ⟨rfl,_⟩ | ⟨g',cap,cur,rfl,_,hh,_⟩
 . cases e
 . simp[Value.ownBlock] at e
   subst e
   have hB':w.heap[g']?=some (.cells cs T (0,0)):=hB
   rw[hB'] at hh
   simp at hh
   exact hT hh.2
theorem c68{w w1 w2:World}{o:Option Nat}(e:Ext w w1)(hg:w1.grownBy w2 o):w.grownBy w2 o:=by
 exact⟨hg.os.trans e.os,hg.tape.trans e.tape,hg.output.trans e.output,nle e.size hg.size,fun i hi hne=>by rw[hg.block i (nlt hi e.size) hne];exact e.block i hi⟩
theorem j60(vx:Value)(xs:List Int)(bO:Nat)(W0 w:World)(vo:Value)(n:Nat)(hI:c9 w vx xs)(hB:Blk w bO 93 #[vo])(hO:E7 W0 w vo n)(hE:Ext W0 w)(hn:n<1000000) :
 Calls Tryz.prog 255 #[vx,.pointer (some ⟨bO,0,none⟩)] w fun e w'=>e=.returned (.bool false)∧∃vo',Blk w' bO 93 #[vo']∧E7 W0 w' vo' (n+1)∧Fr bO vo.ownBlock w w'∧Nw vo.ownBlock w vo'.ownBlock:=by
 have hob:=hO.not hB (by decide);obtain⟨ao,co,rfl,-⟩:=hO.shape;have hne:∀k,(Value.slice ao n co).ownBlock=some k->k≠bO:=fun k hk e=>hob (by rw[hk,e]);have kb:∀W,Ext w W->W.cell? ⟨bO,0,none⟩=some (.slice ao n co):=fun W hW=>(hB.ext hW).cell (i:=0) rfl;have cC:=fun W (hW:Ext w W)=>F8 vx xs W (hI.ext hW);have HB:=zh hB;have HO:=zh hO;have hE0:=er w;have hED:=(er w).drew;clear hB hO hI;go_in;go_wp2_with fail;first | (go_region_law (first | ((refine d38 rfl _ _ rfl W0 ?_ n ?_ ?_ ?_ ?_ ?_ ?_ ?_ ?_ ?_ hn ?_);(rotate_left 5);rfl;rfl;(focus (repeat (first | (with_reducible assumption) | (with_reducible exact Blk.new _ _ _) | ((with_reducible refine Blk.new' ?_);simp[go_sem];done) | (with_reducible apply Blk.alloc) | (with_reducible apply Blk.drew))));(focus (refine E7.ext HO.out ?_;repeat (first | assumption | exact er _ | (apply And.left;assumption) | apply Ext.drew | apply Ext.alloc)));(focus (refine Ext.trans hE ?_;repeat (first | assumption | exact er _ | (apply And.left;assumption) | apply Ext.drew | apply Ext.alloc)));(intro v2 w2 hO2 hG2 hN2;have hXD:=Ext.alloc hXC (.cells #[.slice aC xs.length kC] 26);have hG3:=c68 hXD hG2;have hB2:=HB.out.grown hG3 hne;have hc2:=hB2.cell (i:=0) (v:=.slice ao n co) rfl;have hf2:=hB2.free 0;obtain⟨a2,c2,rfl,-⟩:=hO2.shape)) | (go_simp;go_at_call 212;((with_reducible refine Calls.mono (cC _ xq) ?_);rintro e wC ⟨vC,rfl,hOC,hX⟩;have hXC:=Ext.trans (a:=w) xq hX;obtain⟨aC,kC,rfl,-⟩:=hOC.shape;have hXC1:=Ext.alloc hXC (.cells #[.slice aC xs.length kC] 26);have hXC2:=hXC1.drew;have hXC3:=hXC.drew)))) | (fail "the region")
 all_goals
  have hN3:Nw (Value.slice ao n co).ownBlock (wC.alloc (.cells #[.slice aC xs.length kC] 26)) (Value.slice a2 (n+1) c2).ownBlock:=hN2
  have hG4:(wC.alloc (.cells #[.slice aC xs.length kC] 26)).grownBy w2 (Value.slice ao n co).ownBlock:=hG2
  have hB3:Blk (w2.setCell ⟨bO,0,none⟩ (.slice a2 (n+1) c2)) bO 93 #[.slice a2 (n+1) c2]:=hB2.set 0 _
  have hO3:=hO2.set_ne (i:=0) (hO2.not hB2 (by decide)) (.slice a2 (n+1) c2)
  have hF3:=((hXD.fr bO (Value.slice ao n co).ownBlock).trans (Nw.refl _ _) (bi8 hG4)).trans (Nw.refl _ _) (b96 bO _ w2 0 (.slice a2 (n+1) c2))
  go_wp2_with fail
  go_ret
  exact⟨rfl,_,hB3,hO3,hF3,(Nw.refl _ _).trans hXD.size hN3⟩
theorem dr3{w0 w:World}{g n:Nat}{l:List Int}(h:Own 3 w0 w (.slice (some ⟨g,0,none⟩) n n) l)(hn:l.length=n)(h0:0<n):Blk w g 3 (l.map (Value.int .i64)).toArray:=by
 obtain⟨⟨h1,h2⟩,-⟩:=h;rcases h2 with ⟨hv,-⟩ | ⟨g',cap,cur,hv,hg,hh,hnc,hcm,hcs,htk⟩
 . simp at hv
 . simp only[Value.slice.injEq,Option.some.injEq,Addr.mk.injEq,and_true] at hv;obtain⟨rfl,-,rfl⟩:=hv;have e:cur=(l.map (Value.int .i64)).toArray:=by
    apply Array.toList_inj.1;rw[<-htk,List.take_of_length_le (by simp[hcs];omega)]
   rw[<-e];exact hh
theorem ch9{w:World}{g m:Nat}(h:Blk w g 3 ((List.replicate m (0:Int)).map (Value.int .i64)).toArray):N9 g m [] w:=⟨List.replicate m 0,zm,by simp[b9],h⟩
theorem zz102{P:Prop}(h:P:=by rw[Nat.zero_add] at cT;refine Calls.mono cT ?_;rintro e w7 ⟨rfl,-,hF,hG⟩;have HF:=zh hF;have HG:=zh hG;clear hF hG cT;go_wp2_with fail;go_ret;exact⟨rfl,fun h=>⟨_,(HF.out h).1⟩,HG.out⟩):P:=h
theorem jr7(u:Value)(c:List Int)(n:Nat)(hc:Hid (eqB c=true))(hn:n<=12)(p1 p2:Value)(w:World)(hu:c9 w u c)
 (Inv:Nat->Nat->World->Prop) (Fin:World->Prop) (stop:List Nat->Bool)
 (hI0:∀hi W,Ext w W->w.heap.size<=hi->hi<=W.heap.size->Inv hi 0 W) (hIc:∀hi k W,Inv hi k W->c9 W u c) (hIx:∀hi k W W',Inv hi k W->Ext W W'->Inv hi k W')
 (hIs:∀hi k W b i v,w.heap.size<=b->b<hi->Inv hi k W->Inv hi k (W.setCell ⟨b,i,none⟩ v))
 (hTake:∀hi k W X vx,k<C5 c n [] c.length []->Inv hi k W->c9 W vx (b9 X)->X.length=c.length->(∀x∈X,1<=x∧x<=n)->Calls Tryz.prog 255 #[vx,p1] W fun e W'=>e=.returned (.bool (stop X))∧(stop X=false->Inv hi (k+1) W')∧(stop X=true->Fin W')∧(∀b T cs,w.heap.size<=b->b<hi->Blk W b T cs->Blk W' b T cs)) :
 Calls Tryz.prog 254 #[u,.int .i64 n,.func (.func 255) #[] #[p1]] w fun e W'=>e=.returned (.bool (G7 stop c n c.length []))∧(G7 stop c n c.length []=false->∃hi,Inv hi (C5 c n [] c.length []) W')∧(G7 stop c n c.length []=true->Fin W'):=by
 have h4:=T5 hc.out;have hmf:∀(fn:Fn) (first cap:Array Value) (w:World),(Instr.makeFunc fn first cap).run Tryz.prog w=.ok (.func fn first cap) w:=fun _ _ _ _=>rfl;obtain⟨aoC,cC,rfl,-⟩:=hu;obtain⟨w1,h1⟩:=nq (w.alloc (.cells #[.slice aoC c.length cC] 26));obtain⟨w2,h2⟩:=nq (w1.alloc (.cells #[.int .i64 n] 3));obtain⟨w3,h3⟩:=nq (w2.alloc (.cells #[.func (.func 255) #[] #[p1]] 92));have s1:w1.heap.size=w.heap.size+1:=by rw[h1];simp
 have s2:w2.heap.size=w.heap.size+1+1:=by rw[h2];simp[s1]
 have s3:w3.heap.size=w.heap.size+1+1+1:=by rw[h3];simp[s2]
 have e01:Ext w w1:=by rw[h1];exact (er _).alloc _
 have e12:Ext w1 w2:=by rw[h2];exact (er _).alloc _
 have e23:Ext w2 w3:=by rw[h3];exact (er _).alloc _
 have B1:Blk w1 w.heap.size 26 #[.slice aoC c.length cC]:=by rw[h1];exact Blk.new _ _ _
 have B2:Blk w2 (w.heap.size+1) 3 #[.int .i64 n]:=by rw[h2,<-s1];exact Blk.new _ _ _
 have B3:Blk w3 (w.heap.size+1+1) 92 #[.func (.func 255) #[] #[p1]]:=by rw[h3,<-s2];exact Blk.new _ _ _
 have HIc:=zh hIc;have HIx:=zh hIx;have HIs:=zh hIs;have HTk:=zh hTake;have HI0:=zh hI0;have H123:=zh (show ((w.alloc (.cells #[.slice aoC c.length cC] 26)).alloc (.cells #[.int .i64 n] 3)).alloc (.cells #[.func (.func 255) #[] #[p1]] 92)=w3 by rw[<-h1,<-h2,<-h3]);clear hIc hIx hIs hTake hI0 h1 h2 h3;go_in;go_wp2_with (at_make;refine X5 slI rfl _ _ rfl _ _ c.length rfl rfl om (er _) ?_;intro w4 hO4 hE4;rw[H123.out] at hO4 hE4;have e34:=hE4;rw[H123.out]);obtain⟨w5,h5⟩:=nq (w4.alloc (.cells #[.slice (some ⟨w.heap.size+1+1+1,0,none⟩) c.length c.length] 26));obtain⟨w6,h6⟩:=nq (w5.alloc (.cells #[.func (.func 316) #[] #[.pointer (some ⟨w.heap.size,0,none⟩),.pointer (some ⟨w.heap.size+1+1,0,none⟩),.pointer (some ⟨w4.heap.size,0,none⟩),.pointer (some ⟨w.heap.size+1,0,none⟩),.pointer (some ⟨w4.heap.size+1,0,none⟩)]] 126));rw[<-h5,<-h6];rw[s3] at hO4;have s5:w5.heap.size=w4.heap.size+1:=by rw[h5];simp
 have s6:w6.heap.size=w4.heap.size+1+1:=by rw[h6];simp[s5]
 have e45:Ext w4 w5:=by rw[h5];exact (er _).alloc _
 have e56:Ext w5 w6:=by rw[h6];exact (er _).alloc _
 have B4:=dr3 hO4 zm om;have B5:Blk w5 w4.heap.size 26 #[.slice (some ⟨w.heap.size+1+1+1,0,none⟩) c.length c.length]:=by rw[h5];exact Blk.new _ _ _
 have B6:Blk w6 (w4.heap.size+1) 126 #[.func (.func 316) #[] #[.pointer (some ⟨w.heap.size,0,none⟩),.pointer (some ⟨w.heap.size+1+1,0,none⟩),.pointer (some ⟨w4.heap.size,0,none⟩),.pointer (some ⟨w.heap.size+1,0,none⟩),.pointer (some ⟨w4.heap.size+1,0,none⟩)]]:=by rw[h6,<-s5];exact Blk.new _ _ _
 have hR4:=B4.lt;have e46:=e45.trans e56;have e36:=e34.trans e46;have e06:=(e01.trans (e12.trans e23)).trans e36;have s4:=e34.size;clear h5 h6;have cT:=jn9 c n hc hn w.heap.size (w.heap.size+1+1) w4.heap.size (w.heap.size+1) (w4.heap.size+1) (w.heap.size+1+1+1) aoC cC p1 p2 (C5 c n [] c.length [])
  (fun k W=>Inv (w4.heap.size+2) k W∧Blk W w.heap.size 26 #[.slice aoC c.length cC]∧Blk W (w.heap.size+1) 3 #[.int .i64 n]∧Blk W (w.heap.size+1+1) 92 #[.func (.func 255) #[] #[p1]]∧Blk W w4.heap.size 26 #[.slice (some ⟨w.heap.size+1+1+1,0,none⟩) c.length c.length]∧Blk W (w4.heap.size+1) 126 #[.func (.func 316) #[] #[.pointer (some ⟨w.heap.size,0,none⟩),.pointer (some ⟨w.heap.size+1+1,0,none⟩),.pointer (some ⟨w4.heap.size,0,none⟩),.pointer (some ⟨w.heap.size+1,0,none⟩),.pointer (some ⟨w4.heap.size+1,0,none⟩)]])
  Fin stop
  (fun k W ⟨i0,b1,b2,b3,b5,b6⟩=>⟨b1.cell (i:=0) rfl,b3.cell (i:=0) rfl,b5.cell (i:=0) rfl,b2.cell (i:=0) rfl,b6.cell (i:=0) rfl,HIc.out _ _ _ i0⟩)
  (fun k W i v ⟨i0,b1,b2,b3,b5,b6⟩=>⟨HIs.out _ _ _ _ _ _ om om i0,b1.other (by simp;omega) _,b2.other zm _,b3.other zm _,b5.other (by simp;omega) _,b6.other (by simp;omega) _⟩)
  (fun k W W' ⟨i0,b1,b2,b3,b5,b6⟩ hE=>⟨HIx.out _ _ _ _ i0 hE,b1.ext hE,b2.ext hE,b3.ext hE,b5.ext hE,b6.ext hE⟩)
  (fun k W X hkK ⟨i0,b1,b2,b3,b5,b6⟩ hrow hX hX2=>(HTk.out _ _ _ X _ hkK i0 (hrow.ints hX om) hX hX2).mono fun e W' ⟨r1,r2,r3,r4⟩=>⟨r1,by obtain⟨Z,z1,z2,z3⟩:=hrow;exact⟨Z,z1,z2,r4 _ _ _ om om z3⟩,fun hs=>⟨r2 hs,r4 _ _ _ om om b1,r4 _ _ _ om om b2,r4 _ _ _ om om b3,r4 _ _ _ om om b5,r4 _ _ _ om om b6⟩,r3⟩)
  c.length [] 0 w6 zm zm om
  ⟨HI0.out _ _ e06 om om,B1.ext ((e12.trans e23).trans e36),B2.ext (e23.trans e36),B3.ext e36,B5.ext e56,B6⟩ ((ch9 B4).ext e46)
 exact zz102
theorem zz120{P:Prop}(h:P:=by have h1:=c73 c n [] c.length [];have h2:n ^ c.length<=8 ^ c.length:=Nat.pow_le_pow_left hn _;have h3:8 ^ c.length<=8 ^ 4:=Nat.pow_le_pow_right om (T5 he).2.1;omega):P:=h
theorem ck2(u:Value)(c:List Int)(n:Nat)(w:World)(hu:c9 w u c)(he:eqB c=true)(hn:n<=8) :
 Calls Tryz.prog 151 #[u,.int .i64 n] w fun e w'=>∃v',e=.returned (.tuple #[v',.bool true])∧E7 w w' v' (C5 c n [] c.length [])∧Ext w w':=by
 have cE:=fun W (hW:Ext w W)=>b01 u c W (hu.ext hW);rw[he] at cE;have hin:inB (n:Int) 0 8=true:=Z9.2 om;have cW:=fun W=>P1 (n:Int) 0 8 W;rw[hin] at cW;have hcN:C5 c n [] c.length []<=4096:=by
  exact zz120
 have hmf:∀(fn:Fn) (first cap:Array Value) (w:World),(Instr.makeFunc fn first cap).run Tryz.prog w=.ok (.func fn first cap) w:=fun _ _ _ _=>rfl;have HU:=zh hu;have He:=zh he;obtain⟨w1,h1⟩:=nq (w.alloc (.cells #[] 26));obtain⟨w2,h2⟩:=nq (w1.alloc (.cells #[.slice (some ⟨w.heap.size,0,none⟩) 0 0] 93));have s1:w1.heap.size=w.heap.size+1:=by rw[h1];simp
 have s2:w2.heap.size=w.heap.size+1+1:=by rw[h2];simp[s1]
 have e01:Ext w w1:=by rw[h1];exact (er _).alloc _
 have e12:Ext w1 w2:=by rw[h2];exact (er _).alloc _
 have O1:E7 w w1 (.slice (some ⟨w.heap.size,0,none⟩) 0 0) 0:=by rw[h1];exact be1 (er w)
 have B2:Blk w2 (w.heap.size+1) 93 #[.slice (some ⟨w.heap.size,0,none⟩) 0 0]:=by rw[h2,<-s1];exact Blk.new _ _ _
 have O2:=O1.ext e12;have e02:=e01.trans e12;have H12:=zh (show (w.alloc (.cells #[] 26)).alloc (.cells #[.slice (some ⟨w.heap.size,0,none⟩) 0 0] 93)=w2 by rw[<-h1,<-h2]);have hEq2:=er w2;clear h1 h2 O1 hu he hin;go_in;go_wp2_with fail;rw[H12.out];refine (cE _ e02).mono ?_;rintro e w3 ⟨rfl,hE3⟩;go_wp2_with (refine (cW _).mono ?_;rintro e w' ⟨rfl,rfl⟩);have s3:=hE3.size;have e03:=e02.trans hE3;have cS:=jr7 u c n He om (.pointer (some ⟨w.heap.size+1,0,none⟩)) (.pointer none) w3 (HU.out.ext e03)
  (fun hi k W=>Ext w W∧(∃vo,Blk W (w.heap.size+1) 93 #[vo]∧E7 w W vo k∧(∀g,vo.ownBlock=some g->g<w3.heap.size∨hi<=g))∧hi<=W.heap.size)
  (fun _=>True) (fun _=>false)
  (fun hi W hE h1 h2=>⟨e03.trans hE,⟨_,(B2.ext hE3).ext hE,(O2.ext hE3).ext hE,fun g hg=>Or.inl (by have:=(O2.blk g hg).2;omega)⟩,h2⟩)
  (fun hi k W ⟨h1,_,_⟩=>HU.out.ext h1)
  (fun hi k W W' ⟨h1,⟨vo,h2,h3,h4⟩,h5⟩ hE=>⟨h1.trans hE,⟨vo,h2.ext hE,h3.ext hE,h4⟩,nle h5 hE.size⟩)
  (fun hi k W b i v hb1 hb2 ⟨h1,⟨vo,h2,h3,h4⟩,h5⟩=>⟨h1.setCell (by show w.heap.size<=b;omega) _,⟨vo,h2.other (by show w.heap.size+1≠b;omega) _,h3.set_ne (fun e=>by have:=h4 b e;omega) _,h4⟩,by simpa using h5⟩)
  (fun hi k W X vx hkK ⟨h1,⟨vo,h2,h3,h4⟩,h5⟩ hI hX hX2=>(j60 vx (b9 X) (w.heap.size+1) w W vo k hI h2 h3 h1 om).mono fun e W' ⟨r1,vo',r2,r3,r4,r5⟩=>
   ⟨r1,fun _=>⟨r4.ext h1 om (fun g hg=>(h3.blk g hg).1),⟨vo',r2,r3,fun g hg=>by
    rcases r5 with r5 | r5
    . exact h4 g (by rw[<-r5];exact hg)
    . have:=r5 g hg;omega⟩,nle h5 r4.size⟩,(fun h=>by cases h),fun b T cs hb1 hb2 hB=>r4.blk hB om (fun e=>by have:=h4 b e;omega)⟩)
 have hany:G7 (fun _=>false) c n c.length []=false:=by
  rw[<-Bool.not_eq_true,ce3];rintro⟨Y,-,-,-,h⟩;cases h
 rw[hany] at cS;refine cS.mono ?_;rintro e w4 ⟨rfl,hF,-⟩;obtain⟨hi,h1,⟨vo,h2,h3,-⟩,-⟩:=hF rfl;obtain⟨ao,co,rfl,-⟩:=h3.shape;have k4:=h2.cell (i:=0) (v:=.slice ao (C5 c n [] c.length []) co) rfl;clear cS hF;go_wp2_with fail;exact bodyPost_ret (v:=.tuple #[.slice ao (C5 c n [] c.length []) co,.bool true]) (by simp[results,Tryz.results151,go_sem]) rfl ⟨_,rfl,h3,h1⟩
end Go.Zz
