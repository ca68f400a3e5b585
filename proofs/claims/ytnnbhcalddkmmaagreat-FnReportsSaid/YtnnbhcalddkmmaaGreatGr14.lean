/- Parts of sequences and their totals, the first part of a length, the shortest part, with the sum 0. -/
import Derived.Test.YtnnbhcalddkmmaaGreatGr13
import Derived.Laws.BytesArg
import Derived.BigRegion
set_option linter.unusedSimpArgs false
set_option linter.unusedVariables false
set_option linter.unnecessarySimpa false
set_option maxHeartbeats 8000000
set_option maxRecDepth 20000
namespace Go.Zz
open Go.RowKit Go.Proofs
theorem zz115{P:Prop}(h:P:=by go_roundw;(case rel=>exact⟨k+1,om,zg,by rw[Hn.out];exact hO,hE⟩);case measure=>exact zm1):P:=h
theorem zz180{P:Prop}(h:P:=by subst hkl;go_wp2_with fail;go_ret;exact⟨_,rfl,hO,hE⟩):P:=h
theorem zz188{P:Prop}(h:P:=by go_roundw;(case rel=>exact⟨k+1,om,zg,by rw[Hn.out];exact hO1,hE1⟩);case measure=>exact zm1):P:=h
theorem de0(u:Value)(xs:List Int)(m:Nat)(w:World)(hu:c9 w u xs)(hm:m<2 ^ 24)(hl:xs.length<=24) :
 Calls Tryz.prog 242 #[u,.int .i64 m] w fun e w'=>∃p,e=.returned p∧Own 3 w w' p (O8 xs m)∧Ext w w':=by
 have hO:=m7 (TI:=3) (n:=0) om (er w) [] rfl;have hE:=(er w).alloc (.cells #[] 3);obtain⟨ao,c,adr,rfl,hlen,hadr,hcell⟩:=hu.op;have hix:=j3 (c:=c) elI szI hadr;clear hadr hu;go_in;go_wp2_with fail;go_loopw [5,11] (fun p i wr=>∃k:Nat,k<=xs.length∧i=.int .i64 k∧Own 3 w wr p (G8 xs m k)∧Ext w wr) (fun _ i _=>xs.length - (intOf i).toNat);case atStart=>exact⟨0,om,rfl,by have e:G8 xs m 0=[]:=rfl;rw[e];exact hO,hE⟩
 case round =>
  clear hE hO;obtain⟨k,hk,rfl,hO,hE⟩:=hrel;by_cases hlt:k<xs.length
  . have hck:=hcell k _ hlt hE;have hpl:=bg0 xs m k;have hsh:=K0 (a:=m) (n:=k) om;have hbt:=X8 (a:=m) (n:=k) om om;cases hb:m.testBit k
    . rw[hb] at hbt;have Hn:=zh (c42 (xs:=xs) hb);go_wp2_with (first | (go_at_call 225;refine (T1 m k hm om _ hb).mono ?_;rintro e w' ⟨rfl,rfl⟩));exact zz115
    . rw[hb] at hbt;have Hn:=zh (bx2 (xs:=xs) hb);go_wp2_with (first | (go_at_call 225;refine (T1 m k hm om _ hb).mono ?_;rintro e w' ⟨rfl,rfl⟩) | (at_builtin;refine A6 slI rfl _ _ rfl w _ _ _ _ hO hE om rfl rfl ?_;intro v1 w1 hO1 hE1));exact zz188
  . have hkl:k=xs.length:=(by omega);exact zz180
theorem bj4(u:Value)(X:List Nat)(m:Nat)(w:World)(hu:c9 w u (b9 X))(hm:m<2 ^ 24)(hl:X.length<=24) :
 Calls Tryz.prog 242 #[u,.int .i64 m] w fun e w'=>∃p,e=.returned p∧Own 3 w w' p (b9 (r8 X m))∧Ext w w':=by
 have:=de0 u _ m w hu hm (by rw[j2];exact hl);rwa [cn5] at this
theorem dk0(u:Value)(xs:List Int)(m:Nat)(w:World)(hu:c9 w u xs)(hm:m<2 ^ 24)(hl:xs.length<=24) :
 Calls Tryz.prog 244 #[u,.int .i64 m] w fun e w'=>∃p,e=.returned p∧Own 3 w w' p (O8 xs m)∧Ext w w':=by
 have hO:=m7 (TI:=3) (n:=0) om (er w) [] rfl;have hE:=(er w).alloc (.cells #[] 3);obtain⟨ao,c,adr,rfl,hlen,hadr,hcell⟩:=hu.op;have hix:=j3 (c:=c) elI szI hadr;clear hadr hu;go_in;go_wp2_with fail;go_loopw [5,6] (fun p i wr=>∃k:Nat,k<=xs.length∧i=.int .i64 k∧Own 3 w wr p (G8 xs m k)∧Ext w wr) (fun _ i _=>xs.length - (intOf i).toNat);case atStart=>exact⟨0,om,rfl,by have e:G8 xs m 0=[]:=rfl;rw[e];exact hO,hE⟩
 case round =>
  clear hE hO;obtain⟨k,hk,rfl,hO,hE⟩:=hrel;by_cases hlt:k<xs.length
  . have hck:=hcell k _ hlt hE;have hpl:=bg0 xs m k;have hsh:=K0 (a:=m) (n:=k) om;have hbt:=X8 (a:=m) (n:=k) om om;cases hb:m.testBit k
    . rw[hb] at hbt;have Hn:=zh (c42 (xs:=xs) hb);go_wp2_with (first | (fail));exact zz115
    . rw[hb] at hbt;have Hn:=zh (bx2 (xs:=xs) hb);go_wp2_with (first | (fail) | (at_builtin;refine A6 slI rfl _ _ rfl w _ _ _ _ hO hE om rfl rfl ?_;intro v1 w1 hO1 hE1));exact zz188
  . have hkl:k=xs.length:=(by omega);exact zz180
theorem bd8(u:Value)(X:List Nat)(m:Nat)(w:World)(hu:c9 w u (b9 X))(hm:m<2 ^ 24)(hl:X.length<=24) :
 Calls Tryz.prog 244 #[u,.int .i64 m] w fun e w'=>∃p,e=.returned p∧Own 3 w w' p (b9 (r8 X m))∧Ext w w':=by
 have:=dk0 u _ m w hu hm (by rw[j2];exact hl);rwa [cn5] at this
theorem zz61{P:Prop}(h:P:=by have hkl:k=X.length:=(by omega);subst hkl;go_wp2_with fail;go_ret;exact⟨o7 (by rw[List.take_length]),hE0.trans hE⟩):P:=h
theorem b42(v u:Value)(l:List Int)(X:List Nat)(w:World)(h:c9 w v l)(hu:c9 w u (b9 X))(Hgr:Hid (j1 l=true))(hX:Hid (∀x∈X,x<24)) :
 Calls Tryz.prog 234 #[.agg #[v],u] w fun e w'=>e=.returned (.int .i64 (tot l X:Nat))∧Ext w w':=by
 obtain⟨wb,Hwb,hE0,hb,hg,hE,-⟩:=ju3 28 h;clear h;have hu':=hu.ext hE0;have hlen:X.length<=17592186044416:=by obtain⟨_,_,_,_,h',_⟩:=hu;simpa[j2] using h'
 obtain⟨ao,c,adr,rfl,hadr,hcell⟩:=hu'.nats;have hix:=j3 (c:=c) elI szI hadr;clear hadr hu hu';go_in;go_wp2_with fail;rw[<-Hwb.out];go_loopw [5,10] (fun s i wr=>∃k:Nat,k<=X.length∧i=.int .i64 k∧s=.int .i64 (tot l (X.take k):Nat)∧Ext wb wr) (fun _ i _=>X.length - (intOf i).toNat);case atStart=>exact⟨0,om,rfl,rfl,hE⟩
 case round =>
  clear hE;obtain⟨k,hk,rfl,rfl,hE⟩:=hrel;by_cases hlt:k<X.length
  . have hx:=hX.out _ (o6 hlt);have ht:=be3 Hgr.out (X.take k);have Ht:=zh (bd1 l (X.take k) (d8 X k));have Ht2:=zh (I8 X k hlt);have hck:=hcell k _ hlt hE;have hbx:=hb _ hE;go_wp2_with (first | (go_at_call 224;refine cx (R5 _ _ _ _ _ (hg _ hE) (Hgr) (om) (om)) hE ?_;clear hE;intro w' hE));go_wp2_with fail;exact zz32
  . exact zz61
theorem Y1(v u:Value)(l:List Int)(X:List Nat)(w:World)(h:c9 w v l)(hu:c9 w u (b9 X))(Hgr:Hid (j1 l=true))(hX:Hid (∀x∈X,x<24)) :
 Calls Tryz.prog 134 #[.agg #[v],u] w fun e w'=>e=.returned (.int .i64 (tot l X:Nat))∧Ext w w':=by
 obtain⟨wb,Hwb,hE0,hb,hg,hE,-⟩:=ju3 28 h;clear h;have hu':=hu.ext hE0;have hlen:X.length<=17592186044416:=by obtain⟨_,_,_,_,h',_⟩:=hu;simpa[j2] using h'
 obtain⟨ao,c,adr,rfl,hadr,hcell⟩:=hu'.nats;have hix:=j3 (c:=c) elI szI hadr;clear hadr hu hu';go_in;go_wp2_with fail;rw[<-Hwb.out];go_loopw [5,6] (fun s i wr=>∃k:Nat,k<=X.length∧i=.int .i64 k∧s=.int .i64 (tot l (X.take k):Nat)∧Ext wb wr) (fun _ i _=>X.length - (intOf i).toNat);case atStart=>exact⟨0,om,rfl,rfl,hE⟩
 case round =>
  clear hE;obtain⟨k,hk,rfl,rfl,hE⟩:=hrel;by_cases hlt:k<X.length
  . have hx:=hX.out _ (o6 hlt);have ht:=be3 Hgr.out (X.take k);have Ht:=zh (bd1 l (X.take k) (d8 X k));have Ht2:=zh (I8 X k hlt);have hck:=fun U=>hcell k _ hlt (hE.trans (d5 wr U));have hbx:=fun U=>hb _ (hE.trans (d5 wr U));have hgr':∀W,Ext wr W->c9 W v l:=fun W hW=>hg W (hE.trans hW);have hE1:=hE;clear hE;have hE:=er wr;go_wp2_with fail;(refine d9 (wr) (by kernel_rfl) (by kernel_rfl) hE ?_);(repeat (go_big_quiet_step (first | (go_at_call 190;exact Calls.lat (G5 _ _ _ _ _ (hgr' _ (d5 wr _)) Hgr om om)))));(refine wpQuiet_nil ?_);(intro W hE');(replace hE:=j8 hE');(clear hE');replace hE:=hE1.trans hE;go_wp2_with fail;exact zz32
  . exact zz61
theorem de7{n:Nat}(h:n<=12):pw n<=4096:=Nat.pow_le_pow_right (n:=2) om h
theorem bh9(v u:Value)(l:List Int)(X:List Nat)(k:Nat)(w:World)(h:c9 w v l)(hu:c9 w u (b9 X))(hs:D2 l (b9 X)=true)(hk1:1<=k)(hk2:k<=X.length) :
 Calls Tryz.prog 236 #[.agg #[v],u,.int .i64 k] w fun e w'=>∃p,e=.returned (.tuple #[p,.bool (bd3 l X k)])∧Own 3 w w' p (b9 (cj6 l X k))∧Ext w w':=by
 obtain⟨wb,Hwb,hE0,hb,hg,hE,Hsz⟩:=ju3 28 h;clear h;obtain⟨X',e1,-,h12,hgr,hall⟩:=N6 hs;obtain rfl:X=X':=by
  have:∀(A B:List Nat),b9 A=b9 B->A=B:=fun A B e=>by
   have:=congrArg (List.map Int.toNat) e
   simpa[b9,Function.comp_def] using this
  exact this _ _ e1
 have Hall:=zh hall;have Hgr:=zh hgr;have hp:=de7 h12;have hs1:=p6 (n:=X.length) om;have Hgu:Hid (∀W,Ext wb W->c9 W u (b9 X)):=zh fun W hW=>hu.ext (hE0.trans hW);obtain⟨ao,c,adr,rfl,hadr,hcell⟩:=hu.nats;have hin:inB (k:Int) 1 (X.length:Int)=true:=Z9.2 om;have hbx:=hb wb hE;have Hat:=zh (fun (m:Nat) a b c d=>jt6 (l:=l) (X:=X) (k:=k) (m:=m) a b c d);have Hnone:=zh (fun a=>jg9 (l:=l) (X:=X) (k:=k) a);clear hall hgr e1 hadr hcell hu;go_in;go_wp2_with fail;rw[<-Hwb.out];go_wp2_with (first | (go_at_call 124;refine cx (E5 _ _ _ _ _ (hg _ hE) (Hgu.out _ hE) hs) hE ?_;clear hE;intro w' hE) | (go_at_call 206;refine (P1 _ _ _ _).mono ?_;rw[hin];rintro e w' ⟨rfl,rfl⟩));clear hbx hs hin;go_loopw [24] (fun i wr=>∃m:Nat,m<=pw X.length∧i=.int .i64 m∧(∀j,j<m->¬(cnt j=k∧tot l (r8 X j)=0))∧Ext wb wr) (fun i _=>pw X.length - (intOf i).toNat);case atStart=>exact⟨0,om,rfl,om,hE⟩
 case round =>
  clear hE;obtain⟨m,hm,rfl,hno,hE⟩:=hrel;have Hno:=zh hno;clear hno;by_cases hlt:m<pw X.length
  . have hm24:m<2 ^ 24:=(by omega);have hcm:=r9 m;have hbw:∀W,Ext wr W->W.cell? ⟨w.heap.size,0,none⟩=some v:=fun W hW=>hb W (hE.trans hW);have hgw:∀W,Ext wr W->c9 W v l:=fun W hW=>hg W (hE.trans hW);have Hgw:Hid (∀W,Ext wr W->c9 W (.slice ao X.length c) (b9 X)):=zh fun W hW=>Hgu.out W (hE.trans hW);have hE1:=hE;clear hE;have hE:=er wr;by_cases hc:cnt m=k
    . have hq1:((cnt m:Int) == (k:Int))=true:=(by rw[hc];simp);by_cases ht:tot l (r8 X m)=0
      . have Hz:=zh (Hat.out m hlt Hno.out hc ht);have hq2:((tot l (r8 X m):Int) == 0)=true:=(by rw[ht];simp);have hbx:=hbw wr hE;clear hc ht;go_wp2_with fail;have hD:=(er (wr)).drew;(first | (go_region_held3 (fun W=>Ext (wr) W∧W.cell? ⟨w.heap.size,0,none⟩=some v) (exact⟨xq,hbw _ xq⟩) (first | (go_at_call 107;((with_reducible refine Calls.mono (Calls.ext_of_same (A9 _ hm24 _)) ?_);rintro e wH0 ⟨rfl,hX0⟩;have hH0:=Ext.trans (a:=wr) xq hX0)) | (go_at_call 242;((with_reducible refine Calls.mono (bj4 _ _ _ _ (Hgw.out _ xq) hm24 om) ?_);rintro e wH1 ⟨vP,rfl,hOP,hX1⟩;have hH1:=Ext.trans (a:=wr) xq hX1)) | (go_at_call 234;((with_reducible refine Calls.mono (b42 _ _ _ _ _ (hgw _ xq) hOP.ints Hgr (zh fun x hx=>Hall.out x (Y2 hx))) ?_);rintro e wH2 ⟨rfl,hX2⟩;have hH2:=Ext.trans (a:=wr) xq hX2)))) | (fail "the region with calls"));have hE3:Ext wr wH2:=(by repeat (first | assumption | exact er _ | (apply And.left;assumption) | apply Ext.drew | apply Ext.alloc));go_wp2_with fail;refine (bj4 _ _ _ _ (Hgw.out _ hE3) hm24 om).mono ?_;rintro e w5 ⟨p5,rfl,hO5,hE5⟩;go_wp2_with fail;exact bodyPost_ret (v:=.tuple #[p5,.bool true]) (by simp[results,Tryz.results236,go_sem]) rfl ⟨_,by rw[Hz.out.2.1],by rw[Hz.out.1];exact hO5.mono (hE0.trans (hE1.trans hE3)),hE0.trans (hE1.trans (hE3.trans hE5))⟩
      . have Hq:=zh (fun e:cnt m=k∧tot l (r8 X m)=0=>ht e.2);have hq2:((tot l (r8 X m):Int) == 0)=false:=(by simp;omega);have hbx:=hbw wr hE;clear hc ht;go_wp2_with fail;have hD:=(er (wr)).drew;(first | (go_region_held3 (fun W=>Ext (wr) W∧W.cell? ⟨w.heap.size,0,none⟩=some v) (exact⟨xq,hbw _ xq⟩) (first | (go_at_call 107;((with_reducible refine Calls.mono (Calls.ext_of_same (A9 _ hm24 _)) ?_);rintro e wH0 ⟨rfl,hX0⟩;have hH0:=Ext.trans (a:=wr) xq hX0)) | (go_at_call 242;((with_reducible refine Calls.mono (bj4 _ _ _ _ (Hgw.out _ xq) hm24 om) ?_);rintro e wH1 ⟨vP,rfl,hOP,hX1⟩;have hH1:=Ext.trans (a:=wr) xq hX1)) | (go_at_call 234;((with_reducible refine Calls.mono (b42 _ _ _ _ _ (hgw _ xq) hOP.ints Hgr (zh fun x hx=>Hall.out x (Y2 hx))) ?_);rintro e wH2 ⟨rfl,hX2⟩;have hH2:=Ext.trans (a:=wr) xq hX2)))) | (fail "the region with calls"));have hE3:Ext wr wH2:=(by repeat (first | assumption | exact er _ | (apply And.left;assumption) | apply Ext.drew | apply Ext.alloc));go_wp2_with fail;go_roundw;(case rel=>exact⟨m+1,om,zg,fun j hj=>by by_cases e:j=m;(subst e;exact Hq.out);exact Hno.out j om,hE1.trans hE3⟩);case measure=>exact zm1
    . have Hq:=zh (fun e:cnt m=k∧tot l (r8 X m)=0=>hc e.1);have hq1:((cnt m:Int) == (k:Int))=false:=(by simp;omega);have hbu:=fun U=>hbw _ (d5 wr U);clear hc;go_wp2_with fail;(refine wl hE ?_);(repeat (go_big_quiet_step (first | (go_at_call 107;exact Calls.lat_same (A9 _ (hm24) _)))));(refine zd ?_);(clear hE);(intro W hE);go_wp2_with fail;go_roundw;(case rel=>exact⟨m+1,om,zg,fun j hj=>by by_cases e:j=m;(subst e;exact Hq.out);exact Hno.out j om,hE1.trans hE⟩);case measure=>exact zm1
  . have hml:m=pw X.length:=(by omega);subst hml;have Hz:=zh (Hnone.out Hno.out);have hO:Own 3 wr (wr.alloc (.cells #[] 3)) (.slice (some ⟨wr.heap.size,0,none⟩) 0 0) (b9 []):=m7 (TI:=3) (n:=0) om (er wr) [] rfl;go_wp2_with fail;exact bodyPost_ret (v:=.tuple #[.slice (some ⟨wr.heap.size,0,none⟩) 0 0,.bool false]) (by simp[results,Tryz.results236,go_sem]) rfl ⟨_,by rw[Hz.out.2.1],by rw[Hz.out.1];exact hO.mono (hE0.trans hE),hE0.trans (hE.alloc _)⟩
theorem d37{P:Program}{T TI:TypeId}{o:Oper}{a:Act}{K:Act->World->Prop}{Q:Exit->Act->World->Prop}(hT:IntSl P T TI)(hg:o.guard=none)(s x:Operand)(hop:o.op=Op.call { callee:=Callee.builtin Builtin.append,args:=#[s,x],argTypes:=#[T,T] })
 (w0 W:World) (v:Value) (l:List Int) (y:Int) (b:Nat) (hO:Own TI w0 W v l) (hE:Ext w0 W) (hn:l.length<17592186044416) (hc:W.cell? ⟨b,0,none⟩=some (.int .i64 y)) (hs:a.eval s=v) (hx:a.eval x=.slice (some ⟨b,0,none⟩) 1 1)
 (hK:∀v' w',Own TI w0 w' v' (l++[y])->W.grownBy w' v.ownBlock->Nw v.ownBlock W v'.ownBlock->K (a.put o.dst v') w'):Oper.wp P o a W K Q:=by
 obtain⟨v',w',hrun,h1,h2,h3⟩:=c47 hT o.type w0 W v l y ⟨b,0,none⟩ hO hE (fun j u hu=>by
  have hj:j<1:=by have:=(List.getElem?_eq_some_iff.1 hu).1;simpa using this
  have e0:j=0:=om
  subst e0
  rw[Addr.add_lit,Nat.zero_add,hc]
  simpa using hu) hn
 exact zz72
theorem L16.put{w0 w wA wr:World}{p r g b n c:Nat}{V:Value}{L P:List Int}(h:L16 w0 w wA wr p r g V L (.slice (some ⟨b,0,none⟩) n c) P)(hn:P.length=n)(y:Int):L16 w0 w wA (wr.setCell ⟨b,0,none⟩ (.int .i64 y)) p r g V L (.slice (some ⟨b,0,none⟩) n c) (P.set 0 y):=by
 have hb:wA.heap.size<=b:=h.nb b (by simp[Value.ownBlock]);have hs:=(h.hP.stored_grown hn 0 y);have n1:b≠r:=fun e=>h.hP.ne_blk h.hR (by decide) (by simp[Value.ownBlock,e]);have n2:b≠g:=fun e=>h.hP.ne_blk h.hG (by decide) (by simp[Value.ownBlock,e]);have n3:b≠p:=fun e=>h.hC.nb h.hP (by simp[Value.ownBlock,e]);refine⟨hs.1,h.hV.setCell_ne (p:=⟨b,0,none⟩) (by
  rcases h.vp with e | e
  . rw[e];simp
  . intro q;exact e (by rw[q];simp[Value.ownBlock])) _,h.vp,h.hR.other (p:=⟨b,0,none⟩) (Ne.symm n1) _,h.hG.other (p:=⟨b,0,none⟩) (Ne.symm n2) _,h.hC.other (Ne.symm n3) (h.hP.blk b (by simp[Value.ownBlock])).1 _,h.nb,by simpa using h.sz,h.ws,h.fr.set (nle h.ws hb) 0 _⟩
theorem bo7(X:List Nat)(x:Nat):b9 X++[(x:Int)]=b9 (X++[x]):=by simp[b9]
theorem zz149{P:Prop}(h:P:=by go_wp2_with fail;go_roundw;(case rel=>exact⟨k - 1,a8,X++[x],c8,om,om,zg,by rw[e1],HXx,by rw[e1];exact hI9⟩);case measure=>exact zm1):P:=h
theorem dk1(v:Value)(l:List Int)(w:World)(h:V4 w v l) :
 Calls Tryz.prog 89 #[v] w fun e w'=>∃ao L c aP P cP,e=.returned (.tuple #[.agg #[.slice ao (List.length L) c],.slice aP (List.length P) cP])∧Own 3 w w' (.slice ao (List.length L) c) L∧c9 w' (.slice aP (List.length P) cP) P∧Ext w w':=by
 have hEr:=(er w).alloc (.cells #[.slice none 0 0] 28);have hB0:=Blk.new w 28 #[.slice none 0 0];obtain⟨wR,hwR⟩:=nq (w.alloc (.cells #[.slice none 0 0] 28));have hsR:w.heap.size<wR.heap.size:=by rw[hwR];simp
 rw[<-hwR] at hEr hB0;have HwR:=zh hwR;clear hwR;go_in;go_wp2_with fail;rw[<-HwR.out];refine (V0 _ _ w _ h hEr).mono ?_;rintro e wA ⟨p,rfl,hC0,hE1,hpZ⟩;have hp:=hC0.lt;have hsz:=hE1.size;have hpA:p<wA.heap.size:=om;have hBA:=hB0.ext hE1;have hFA:=(hEr.trans hE1).drw p;clear hB0 hEr hE1;go_wp2_with fail;refine (cm3 w wA p 7 hC0).mono ?_;rintro e w2 ⟨ao,L,c,hgr,rfl,hO,hC,hF2⟩;have hR:=hF2.blk hBA om;have hF:=hFA.trans hF2;have hs2:=hF2.size;clear hBA hFA hC0 hF2;have hG:=Blk.new w2 28 #[.slice ao L.length c];replace hR:=hR.alloc (.cells #[.slice ao L.length c] 28);replace hO:=hO.alloc (.cells #[.slice ao L.length c] 28);replace hC:=hC.alloc (.cells #[.slice ao L.length c] 28);replace hF:=hF.alloc (.cells #[.slice ao L.length c] 28);obtain⟨w3,hw3⟩:=nq (w2.alloc (.cells #[.slice ao L.length c] 28));have hs3:w2.heap.size<w3.heap.size:=by rw[hw3];simp
 have Hs3:Hid (w2.heap.size+1=w3.heap.size):=zh (by rw[hw3];simp);rw[<-hw3] at hG hR hO hC hF;have Hw3:=zh hw3;obtain⟨g,hg⟩:=nq (w2.heap.size);have ngp:g≠p:=om;have nrp:w.heap.size≠p:=om;have ngr:g≠w.heap.size:=om;have Hg1:Hid (g+1=w3.heap.size):=zh (by rw[hg];exact Hs3.out);rw[<-hg] at hG;have Hg:=zh hg;have hOP:=m7 (TI:=3) (n:=0) om (er w3) [] rfl;change Own _ _ (w3.alloc (.cells #[] 3)) _ _ at hOP;have hsA3:wA.heap.size<=w3.heap.size:=om;have hI0:L16 w w wA (w3.alloc (.cells #[] 3)) p w.heap.size g (.slice ao L.length c) L (.slice (some ⟨w3.heap.size,0,none⟩) 0 0) (b9 []) :=
  ⟨hOP.low om,hO.alloc _,by
   cases hb:(Value.slice ao L.length c).ownBlock with
   | none=>exact Or.inl rfl
   | some b=>exact Or.inr (by have:=(hO.blk b hb).2;simp[Value.ownBlock];omega),hR.alloc _,hG.alloc _,hC.alloc _,fun k hk=>by simp[Value.ownBlock] at hk;omega,by simp;omega,om,hF.alloc _⟩
 obtain⟨w4,hw4⟩:=nq (w3.alloc (.cells #[] 3));rw[<-hw4] at hI0;have Hw4:=zh hw4;have Hgr:=zh hgr;have hob:=m8 hgr;have cO:=fun W (hv:Own 3 wA W (.slice ao L.length c) L)=>o5 _ L W hv.ints Hgr;obtain⟨n,hn⟩:=nq (ord L);simp only[<-hn] at cO;rw[<-hn] at hob;have Hn:=zh hn;clear hw3 hg hw4 hOP hG hR hO hC hF hn hgr;have l0:=hI0.hG.cell (i:=0) (v:=.slice ao L.length c) rfl;go_upto_region 4 with fail;rw[<-Hw3.out,<-Hg.out,Hg1.out,<-Hw4.out];go_wp2_with (first | (go_at_call 43;refine (cO _ hI0.hV).mono ?_;rintro e w5 ⟨rfl,hE5⟩;have hI5:=hI0.ext hE5) | (go_at_call 160;refine (A8 w w5 p 6 om hI5.hC).mono ?_;rintro e w6 ⟨n0,rfl,hb,hC6,hF6⟩;have hI6:=hI5.drw hF6 hC6 ngp nrp));obtain⟨hn0,hn1⟩:=hb.2 om;clear hI0 hI5 hC6 hF6 hb l0 cO;go_loopw [6,8] (fun s6 s8 wr=>∃(k:Int) (aP:Option Addr) (X:List Nat) (cP:Nat),0<=k∧(X.length:Int)+2*k<=10∧s8=.int .i64 k∧s6=.slice aP X.length cP∧Hid (∀x∈X,x<24)∧L16 w w wA wr p w.heap.size g (.slice ao L.length c) L (.slice aP X.length cP) (b9 X)) (fun _ s8 _=>(intOf s8).toNat);case atStart=>exact⟨n0,_,[],0,om,by simp;omega,rfl,rfl,zh (fun x hx=>by cases hx),hI6⟩
 case round =>
  rename World=>wr;clear hI6 hn0 hn1;obtain⟨k,aP,X,cP,hk0,hkP,rfl,rfl,HX,hI⟩:=hrel;have hlX:(b9 X).length=X.length:=j2 X;have HlX:=zh hlX;have hlP:(b9 X).length<17592186044416:=om;clear hlX;by_cases hlt:0<k
  . have hwn:IntKind.i64.wrap (k - 1)=k - 1:=IntWalk.i64_in _ om;go_wp2_with fail;refine (A8 w _ p n om hI.hC).mono ?_;rintro e w5 ⟨x',rfl,hb,hC5,hF5⟩;have hI5:=hI.drw hF5 hC5 ngp nrp;obtain⟨hx0,hx1⟩:=hb.2 om;obtain⟨x,rfl⟩:=Int.eq_ofNat_of_zero_le hx0;have HXx:Hid (∀y∈X++[x],y<24):=zh (fun y hy=>by
     rcases List.mem_append.1 hy with hy | hy
     . exact HX.out y hy
     . rw[List.mem_singleton.1 hy];omega)
    clear hI hC5 hF5 hb hx0;have e1:(X++[x]).length=X.length+1:=zm;have hl8:(b9 (X++[x])).length=X.length+1:=(by rw[j2,e1]);go_wp2_with (at_builtin;refine K9 slI rfl _ _ rfl w _ _ _ _ hI5.hP hI5.hC.base hlP rfl rfl ?_;intro v8 w8 hO8 hG8 hN8;rw[bo7] at hO8;have hI8:=hI5.app hO8 hG8 hN8;obtain⟨a8,c8,e8,-⟩:=hO8.shape;rw[hl8] at e8;subst e8);clear hO8 hG8 hN8 hI5;refine (C8 w _ p 2 om hI8.hC).mono ?_;rintro e w9 ⟨bb,rfl,hC9,hF9⟩;have hI9:=hI8.drw hF9 hC9 ngp nrp;clear hI8 hC9 hF9;cases bb
    . exact zz149
    . by_cases h7:X.length+1<7
      . have h7I:((X.length+1:Nat):Int)<7:=(by omega);have l0:=hI9.hG.cell (i:=0) (v:=.slice ao L.length c) rfl;have hN:=W8 _ L x _ hI9.hV.ints Hgr om;have hz:=P3 L (m9 Hgr.out) x;rw[<-Hn.out] at hz;obtain⟨z,hzd⟩:=nq (p9 L x);rw[<-hzd] at hN hz;have e2:(X++[x]++[z]).length=X.length+2:=zm;have hl11:(b9 (X++[x]++[z])).length=X.length+2:=(by rw[j2,e2]);have hlP2:(b9 (X++[x])).length<17592186044416:=om;have HXz:Hid (∀y∈X++[x]++[z],y<24):=zh (fun y hy=>by
         rcases List.mem_append.1 hy with hy | hy
         . exact HXx.out y hy
         . rw[List.mem_singleton.1 hy];omega)
        clear hzd;go_wp2_with (first | (go_at_call 202;refine hN.mono ?_;rintro e w10 ⟨rfl,hE10⟩;have hI10:=hI9.ext hE10) | (at_builtin;refine K9 slI rfl _ _ rfl w _ _ _ _ hI10.hP hI10.hC.base hlP2 rfl rfl ?_;intro v11 w11 hO11 hG11 hN11;rw[bo7] at hO11;have hI11:=hI10.app hO11 hG11 hN11;obtain⟨a11,c11,e11,-⟩:=hO11.shape;rw[hl11] at e11;subst e11));go_roundw;(case rel=>exact⟨k - 1,a11,X++[x]++[z],c11,om,om,zg,by rw[e2],HXz,by rw[e2];exact hI11⟩);case measure=>exact zm1
      . have h7I:¬((X.length+1:Nat):Int)<7:=(by omega);exact zz149
  . have hl10:X.length<=10:=(by omega);clear hkP;have cS:=fun W h1 h2=>Y1 (.slice ao L.length c) (.slice aP X.length cP) L X W h1 h2 Hgr HX;have htot:=be3 Hgr.out X;obtain⟨T0,hT0⟩:=nq (tot L X);simp only[<-hT0] at cS;rw[<-hT0] at htot;have cN:=fun W h1=>W8 (.slice ao L.length c) L T0 W h1 Hgr om;obtain⟨z,hzd⟩:=nq (p9 L T0);simp only[<-hzd] at cN;have e1:(X++[z]).length=X.length+1:=zm;have hl8:(b9 (X++[z])).length=X.length+1:=(by rw[j2,e1]);clear hT0 hzd;go_upto_region 12 with fail;have hD:=hI.ext ((er _).drew);have d0:=hD.hG.cell (i:=0) (v:=.slice ao L.length c) rfl;have d1:=True.intro;have d2:=True.intro;have d3:=True.intro;have d4:=True.intro;refine wp_region_held_drew (S:=(fun W=>W.cell? ⟨g,0,none⟩=some (.slice ao L.length c))) (by kernel_rfl) (by exact d0) (fun hHeld=>?_);refine hxn 0 ?_;refine hxn 1 ?_;refine hxn 2 ?_;refine hxn 3 ?_;refine hxt 4 (h:=fun K hK=>?_);go_simp;(go_at_call 134;with_reducible refine Calls.mono (cS _ hD.hV.ints hD.hP.ints) ?_;rintro e wS ⟨rfl,hX1⟩;have hS1:=hD.ext hX1;have d1:=hS1.hG.cell (i:=0) (v:=.slice ao L.length c) rfl);refine hxo hK (by first | exact d0 | exact d1 | exact d2 | exact d3 | exact d4) (fun hHeld=>?_);clear hK K;refine hxt 5 (h:=fun K hK=>?_);go_simp;(go_at_call 202;with_reducible refine Calls.mono (cN _ hS1.hV.ints) ?_;rintro e wN ⟨rfl,hX2⟩;have hS2:=hS1.ext hX2;have d2:=hS2.hG.cell (i:=0) (v:=.slice ao L.length c) rfl;have hS3:=hS2.ext ((er wN).alloc (.cells #[.int .i64 z] 3));have hc3:=(Blk.new wN 3 #[.int .i64 (z:Int)]).cell (i:=0) (v:=.int .i64 z) rfl;have d3:=hS3.hG.cell (i:=0) (v:=.slice ao L.length c) rfl);refine hxo hK (by first | exact d0 | exact d1 | exact d2 | exact d3 | exact d4) (fun hHeld=>?_);clear hK K;refine hxt 6 (h:=fun K hK=>?_);go_simp;refine hxo hK (by first | exact d0 | exact d1 | exact d2 | exact d3 | exact d4) (fun hHeld=>?_);clear hK K;refine hxt 7 (h:=fun K hK=>?_);(refine d37 slI rfl _ _ rfl w _ _ (b9 X) (z:Int) wN.heap.size hS3.hP hS3.hC.base hlP hc3 rfl rfl ?_;intro v11 w11 hO11 hG11 hN11;rw[bo7] at hO11;have hI11:=hS3.app hO11 hG11 hN11;obtain⟨a11,c11,e11,-⟩:=hO11.shape;rw[hl8] at e11;subst e11;have d4:=hI11.hG.cell (i:=0) (v:=.slice ao L.length c) rfl);refine hxo hK (by first | exact d0 | exact d1 | exact d2 | exact d3 | exact d4) (fun hHeld=>?_);clear hK K;refine hxn 8 ?_;refine wpAnyH_done (by kernel_rfl) ?_ _;skip;clear d0 d1 d2 d3 d4 hD hS1 hS2 hS3 hc3 hI hX1 hX2 hO11 hG11 hN11 cS cN hHeld;obtain⟨P,hP⟩:=nq (b9 (X++[z]));rw[<-hP] at hI11 hl8;have hPl:P.length<=11:=om;have hl8':=zh hl8;clear hP hlP e1 hl8;go_wp2_with fail;refine (A8 w _ p 12 om hI11.hC).mono ?_;rintro e w13 ⟨m',rfl,-,hC13,hF13⟩;have hI13:=hI11.drw hF13 hC13 ngp nrp;clear hI11 hC13 hF13;by_cases m0:m'=0
    . subst m0;obtain⟨aQ,cQ,hv,-,-,hs⟩:=hI13.hP.shape;obtain⟨b,hb,-,-⟩:=hs 0 (by have:=hl8'.out;omega);simp only[Value.slice.injEq] at hv;obtain⟨e1,-,-⟩:=hv;have e2:=e1.trans hb;subst e2;clear hs e1 hb;have hp5:p<w13.heap.size:=hI13.hC.lt.2;have hOl:Own 3 w13 (w13.alloc (.cells #[.int .i64 (-1),.int .i64 0,.int .i64 1,.int .i64 24] 3)) (.slice (some ⟨w13.heap.size,0,none⟩) 4 4) [-1,0,1,24]:=m7 (TI:=3) (n:=4) om (er w13) [-1,0,1,24] rfl;have hix:∀W,(Instr.indexAt 26 (.slice (some ⟨b,0,none⟩) (X.length+1) c11) (.int .i64 0)).run Tryz.prog W=.ok (.pointer (some ⟨b,0,none⟩)) W:=fun W=>by
       rw[run_indexAt_slice (h:=elI),if_pos om,szI];exact zz71
      go_upto_region 18 with (go_at_call 197;refine (K8 w _ w13 p _ [-1,0,1,24] ((hI13.ext ((er _).alloc _)).hC) hOl hp5 (by decide) (by decide)).mono ?_;rintro e w14 ⟨kk,hkk,rfl,hC14,hF14⟩;obtain⟨y,hy⟩:=nq (nth [-1,0,1,24] kk);rw[<-hy];clear hy;have hI14:=(hI13.ext ((er _).alloc _)).drw hF14 hC14 ngp nrp;obtain⟨aQ,cQ,hv,-,-,hs⟩:=hI14.hP.shape;obtain⟨b',hb',k0,f0⟩:=hs 0 (by have:=hl8'.out;omega);simp only[Value.slice.injEq] at hv;obtain⟨e1,-,-⟩:=hv;have e2:=e1.trans hb';simp only[Option.some.injEq,Addr.mk.injEq,and_true] at e2;subst e2;clear hs e1 hb';have hI15:=hI14.put hl8'.out y);obtain⟨w15,hw15⟩:=nq (w14.setCell ⟨b,0,none⟩ (.int .i64 y));rw[<-hw15] at hI15 ⊢;clear hw15 k0 f0 hI14 hI13 hOl hC14 hF14;have hPs:(P.set 0 y).length<=11:=(by rw[List.length_set];exact hPl);(try go_upto_region 18 with fail);have hD:=hI15.ext ((er _).drew);have d0:=hD.hG.cell (i:=0) (v:=.slice ao L.length c) rfl;have r0:=hD.hR.cell (i:=0) (v:=.slice none 0 0) rfl;have f0:=hD.hR.free 0;have hS:=hD.store nrp ngr (Nat.le_refl _) (Nat.le_refl _);have d1:=hS.hG.cell (i:=0) (v:=.slice ao L.length c) rfl;have hX:=True.intro;have d2:=True.intro;have d3:=True.intro;have hP8:((P.set 0 y)).length<=1000000:=om;refine wp_region_held_drew (S:=(fun W=>W.cell? ⟨g,0,none⟩=some (.slice ao L.length c))) (by kernel_rfl) (by exact d0) (fun hHeld=>?_);refine hxn 0 ?_;refine hxn 1 ?_;refine hxt 2 (h:=fun K hK=>?_);go_simp;(go_at_call 203;(first | (with_reducible refine Calls.mono (Z2 _ (P.set 0 y) _ hD.hP.ints hP8) ?_) | (with_reducible refine Calls.mono (Z2 _ (P.set 0 y) _ hS.hP.ints hP8) ?_));rintro e wC ⟨vS,rfl,hOS,hX⟩);obtain⟨aS,cS,rfl,-⟩:=hOS.shape;first | (have hIC:=hD.ext hX;have r1:=hIC.hR.cell (i:=0) (v:=.slice none 0 0) rfl;have f1:=hIC.hR.free 0;have d2:=hIC.hG.cell (i:=0) (v:=.slice ao L.length c) rfl;have hZ:=hIC.store nrp ngr (Nat.le_refl _) (Nat.le_refl _);have d3:=hZ.hG.cell (i:=0) (v:=.slice ao L.length c) rfl;have hOZ:=hOS.setCell_ne (p:=⟨w.heap.size,0,none⟩) (hOS.ne_blk hIC.hR (by decide)) (.slice ao L.length c)) | (have hZ:=hS.ext hX;have d3:=hZ.hG.cell (i:=0) (v:=.slice ao L.length c) rfl;have hOZ:=hOS)
      refine hxo hK (by first | exact d0 | exact d1 | exact d2 | exact d3) (fun hHeld=>?_);clear hK K;refine hxt 3 (h:=fun K hK=>?_);go_simp;refine hxo hK (by first | exact d0 | exact d1 | exact d2 | exact d3) (fun hHeld=>?_);clear hK K;refine hxn 4 ?_;refine wpAnyH_done (by kernel_rfl) ?_ _;go_wp2_with fail;have q0:=hZ.hR.cell (i:=0) (v:=.slice ao L.length c) rfl;refine bodyPost_ret (v:=.tuple #[.agg #[.slice ao L.length c],.slice aS (b68 (P.set 0 y)).length cS]) ?_ rfl ?_
      . simp[results,Tryz.results89,go_sem,q0]
      . exact⟨_,L,_,_,b68 (P.set 0 y),_,rfl,hZ.hV.low om,hOZ.ints,hZ.hC.base⟩
    . have h0:(m' == 0)=false:=(by rw[beq_eq_false_iff_ne];exact m0);by_cases m1:m'=1
      . subst m1;go_wp2_with fail;refine (b36 w _ p hI13.hC).mono ?_;rintro e w14 ⟨ao2,L2,c2,rfl,hO14,hC14,hF14⟩;have hI14:=hI13.drw hF14 hC14 ngp nrp;have hs13:=hI13.sz;clear hI13 hC14 hF14;go_wp2_with fail;refine (Z2 _ P _ hI14.hP.ints om).mono ?_;rintro e w15 ⟨vS,rfl,hOS,hX⟩;obtain⟨aS,cS,rfl,-⟩:=hOS.shape;have hI15:=hI14.ext hX;have hO15:=hO14.ext hX;clear hI14 hO14 hX;have r0:=hI15.hR.cell (i:=0) (v:=.slice none 0 0) rfl;have f0:=hI15.hR.free 0;have q0:=(hI15.hR.set 0 (.slice ao2 L2.length c2)).cell (i:=0) (v:=.slice ao2 L2.length c2) rfl;have hOZ:=hOS.setCell_ne (p:=⟨w.heap.size,0,none⟩) (hOS.ne_blk hI15.hR (by decide)) (.slice ao2 L2.length c2);have hV5:=(hO15.setCell_ne (p:=⟨w.heap.size,0,none⟩) (hO15.ne_blk hI15.hR (by decide)) (.slice ao2 L2.length c2)).low (w0:=w) om;have hC5:=(hI15.hC.other (Ne.symm nrp) (Nat.le_refl _) (.slice ao2 L2.length c2) (i:=0)).base;go_wp2_with fail;clear r0 f0 hI15;generalize w15.setCell ⟨w.heap.size,0,none⟩ (.slice ao2 L2.length c2)=w9 at q0 hOZ hV5 hC5 ⊢;refine bodyPost_ret (v:=.tuple #[.agg #[.slice ao2 L2.length c2],.slice aS (b68 P).length cS]) ?_ rfl ?_
        . simp[results,Tryz.results89,go_sem,q0]
        . exact⟨_,L2,_,_,b68 P,_,rfl,hV5,hOZ.ints,hC5⟩
      . have h1:(m' == 1)=false:=(by rw[beq_eq_false_iff_ne];exact m1);(try go_upto_region 18 with fail);have hD:=hI13.ext ((er _).drew);have d0:=hD.hG.cell (i:=0) (v:=.slice ao L.length c) rfl;have r0:=hD.hR.cell (i:=0) (v:=.slice none 0 0) rfl;have f0:=hD.hR.free 0;have hS:=hD.store nrp ngr (Nat.le_refl _) (Nat.le_refl _);have d1:=hS.hG.cell (i:=0) (v:=.slice ao L.length c) rfl;have hX:=True.intro;have d2:=True.intro;have d3:=True.intro;have hP8:(P).length<=1000000:=om;refine wp_region_held_drew (S:=(fun W=>W.cell? ⟨g,0,none⟩=some (.slice ao L.length c))) (by kernel_rfl) (by exact d0) (fun hHeld=>?_);refine hxn 0 ?_;refine hxn 1 ?_;refine hxt 2 (h:=fun K hK=>?_);go_simp;(go_at_call 203;(first | (with_reducible refine Calls.mono (Z2 _ P _ hD.hP.ints hP8) ?_) | (with_reducible refine Calls.mono (Z2 _ P _ hS.hP.ints hP8) ?_));rintro e wC ⟨vS,rfl,hOS,hX⟩);obtain⟨aS,cS,rfl,-⟩:=hOS.shape;first | (have hIC:=hD.ext hX;have r1:=hIC.hR.cell (i:=0) (v:=.slice none 0 0) rfl;have f1:=hIC.hR.free 0;have d2:=hIC.hG.cell (i:=0) (v:=.slice ao L.length c) rfl;have hZ:=hIC.store nrp ngr (Nat.le_refl _) (Nat.le_refl _);have d3:=hZ.hG.cell (i:=0) (v:=.slice ao L.length c) rfl;have hOZ:=hOS.setCell_ne (p:=⟨w.heap.size,0,none⟩) (hOS.ne_blk hIC.hR (by decide)) (.slice ao L.length c)) | (have hZ:=hS.ext hX;have d3:=hZ.hG.cell (i:=0) (v:=.slice ao L.length c) rfl;have hOZ:=hOS)
        refine hxo hK (by first | exact d0 | exact d1 | exact d2 | exact d3) (fun hHeld=>?_);clear hK K;refine hxt 3 (h:=fun K hK=>?_);go_simp;refine hxo hK (by first | exact d0 | exact d1 | exact d2 | exact d3) (fun hHeld=>?_);clear hK K;refine hxn 4 ?_;refine wpAnyH_done (by kernel_rfl) ?_ _;go_wp2_with fail;have q0:=hZ.hR.cell (i:=0) (v:=.slice ao L.length c) rfl;refine bodyPost_ret (v:=.tuple #[.agg #[.slice ao L.length c],.slice aS (b68 P).length cS]) ?_ rfl ?_
        . simp[results,Tryz.results89,go_sem,q0]
        . exact⟨_,L,_,_,b68 P,_,rfl,hZ.hV.low om,hOZ.ints,hZ.hC.base⟩
theorem bt7(v:Value)(l:List Int)(w:World)(h:V4 w v l) :
 Calls Tryz.prog 24 #[v] w fun e w'=>∃ao L c aP P cP,e=.returned (.tuple #[.agg #[.slice ao (List.length L) c],.slice aP (List.length P) cP])∧Own 3 w w' (.slice ao (List.length L) c) L∧c9 w' (.slice aP (List.length P) cP) P∧Ext w w':=by
 have hE0:=(er w).alloc (.cells #[.slice none 0 0] 28);have hB0:=Blk.new w 28 #[.slice none 0 0];obtain⟨wA,hwA⟩:=nq (w.alloc (.cells #[.slice none 0 0] 28));have hsA:w.heap.size<wA.heap.size:=by rw[hwA];simp
 rw[<-hwA] at hE0 hB0;have HwA:=zh hwA;clear hwA;have hX:=h;obtain⟨aov,cv,rfl,-⟩:=hX;have c1:=dk1 _ _ _ (h.ext hE0);have c2:∀W,Ext wA W->Calls Tryz.prog 90 #[.slice aov l.length cv] W fun e w'=>∃ao L c aP P cP,e=.returned (.tuple #[.agg #[.slice ao (List.length L) c],.slice aP (List.length P) cP])∧Own 3 W w' (.slice ao (List.length L) c) L∧c9 w' (.slice aP (List.length P) cP) P∧Ext W w' :=
  fun W hW=>(dj8 _ _ W (h.ext (hE0.trans hW))).mono fun e w' ⟨ao,L,c,aP,P,cP,e1,e2,e3,e4,e5⟩=>⟨ao,L,c,aP,P,cP,e1,e2,e3,e5⟩
 by_cases hm:l.length % 2=0;all_goals (
  have hmq:(((l.length:Nat):Int) % 2 == 0)=decide (l.length % 2=0):=by
   by_cases q:l.length % 2=0
   . rw[decide_eq_true q,beq_iff_eq];omega
   . rw[decide_eq_false q,beq_eq_false_iff_ne];omega
  first | rw[decide_eq_true hm] at hmq | rw[decide_eq_false hm] at hmq
  clear hm
  go_in
  go_wp2_with fail
  rw[<-HwA.out]
  first | (refine c1.mono ?_) | (refine (c2 _ (er _)).mono ?_)
  rintro e w2 ⟨ao,L,c,aP,P,cP,rfl,hO,hI,hE2⟩
  have hR:=hB0.ext hE2
  have hE:=hE0.trans hE2
  have hO2:=hO.low (w0:=w) om
  have hR8:=hR.alloc (.cells #[.slice ao L.length c] 28)
  have r0:=hR8.cell (i:=0) (v:=.slice none 0 0) rfl
  have f0:=hR8.free 0
  have e0:=(Blk.new w2 28 #[.slice ao L.length c]).cell (i:=0) (v:=.slice ao L.length c) rfl
  have hO9:=(hO2.alloc (.cells #[.slice ao L.length c] 28)).setCell_ne (p:=⟨w.heap.size,0,none⟩) ((hO2.alloc _).ne_blk hR8 (by decide)) (.slice ao L.length c)
  have hE9:=(hE.alloc (.cells #[.slice ao L.length c] 28)).setCell (p:=⟨w.heap.size,0,none⟩) (Nat.le_refl _) (.slice ao L.length c)
  have q0:=(hR8.set 0 (.slice ao L.length c)).cell (i:=0) (v:=.slice ao L.length c) rfl
  have hP9:=(hI.ext ((er w2).alloc (.cells #[.slice ao L.length c] 28))).set_other r0 (by intro x e;cases e) (.slice ao L.length c)
  go_wp2_with fail
  clear r0 f0 e0 hR8
  generalize (w2.alloc (.cells #[.slice ao L.length c] 28)).setCell ⟨w.heap.size,0,none⟩ (.slice ao L.length c)=w9 at hO9 hE9 q0 hP9 ⊢
  exact bodyPost_ret (v:=.tuple #[.agg #[.slice ao L.length c],.slice aP P.length cP]) (by simp[results,Tryz.results24,go_sem,q0]) rfl ⟨_,L,_,_,P,_,rfl,hO9,hP9,hE9⟩)
theorem jj2(v:Value)(l:List Int)(w:World)(h:V4 w v l) :
 Calls Tryz.prog 7 #[v] w fun e w'=>∃b,e=.returned (.bool b)∧Ext w w':=by
 obtain⟨ao,c,rfl,-⟩:=h;go_in;go_wp2_with fail;go_ret;exact⟨_,rfl,er _⟩
theorem bl5(w:World)(y:Int) :
 (convert 22 9 (.slice (some ⟨w.heap.size,0,none⟩) 1 1)).run Tryz.prog (w.alloc (.cells #[.int .u8 y] 5))=.ok (.string (strOfNums [y])) (w.alloc (.cells #[.int .u8 y] 5)) :=
 run_convert_bytes_arg (P:=Tryz.prog) _ 22 5 (by rfl) (by rfl) w.heap.size 0 1 1 [y] rfl (fun i hi=>by
  have:i=0:=om
  subst this
  simp) _ (by rfl)
def b28(m:Nat)(s:ByteArray):ByteArray:=if m=0 then s else b28 (m / 10) (strOfNums [48+(m % 10:Nat)]++s)
theorem bm2(s:ByteArray):b28 0 s=s:=by rw[b28,if_pos rfl]
theorem bi5{m:Nat}(s:ByteArray)(h:¬m=0):b28 m s=b28 (m / 10) (strOfNums [48+(m % 10:Nat)]++s):=by rw[b28,if_neg h]
def o3(n:Int):ByteArray:=if n=0 then ⟨#[48]⟩ else if n<0 then ⟨#[45]⟩++b28 n.natAbs ⟨#[]⟩ else b28 n.natAbs ⟨#[]⟩
theorem d99{n:Nat}(h:0<n):o3 n=b28 n ⟨#[]⟩:=by unfold o3;rw[if_neg om,if_neg om];rfl
theorem zz140{P:Prop}(h:P:=by have hq':=Hq.out;(simp[intOf];omega)):P:=h
theorem ct7(n:Nat)(hn:n<1000000000000)(hp:0<n)(w:World) :
 Calls Tryz.prog 45 #[.int .i64 n] w fun e w'=>e=.returned (.string (o3 n))∧Ext w w':=by
 have h0:¬(n:Int)=0:=om;have h1:¬(n:Int)<0:=om;have Hf:=zh (d99 hp);go_in;go_wp2_with fail;go_loopw [0,3] (fun d s wr=>∃m:Nat,m<1000000000000∧d=.int .i64 m∧Ext w wr∧∃t:ByteArray,s=.string t∧t.size+m<=n∧Hid (b28 m t=o3 n)) (fun d _ _=>(intOf d).toNat);case atStart=>exact⟨n,hn,rfl,er _,_,rfl,by simp[ByteArray.size],zh Hf.out.symm⟩
 case round =>
  obtain⟨m,hm,rfl,hE,t,rfl,hsz,Ht⟩:=hrel;by_cases hz:m=0
  . subst hz;go_wp2_with fail;go_ret;exact⟨j9 (by rw[<-Ht.out,bm2]),hE⟩
  . have h2:¬(m:Int)=0:=(by omega);obtain⟨r,hr⟩:∃r:Nat,(m:Int) % 10=r:=⟨m % 10,om⟩;have hr10:r<10:=om;obtain⟨q,hq⟩:∃q:Nat,(m:Int) / 10=q:=⟨m / 10,om⟩;have Hr:=zh (show r=m % 10 by omega);have Hq:=zh (show q=m / 10 by omega);have hcv:=bl5 wr (48+r);have hs1:(strOfNums [48+(r:Int)]).size=1:=strOfNums_size _;go_wp2_with fail;go_roundw;case rel =>
     have hq':=Hq.out;have hr':=Hr.out;exact⟨q,om,rfl,hE.alloc _,_,rfl,by (rw[ByteArray.size_append,hs1];omega),zh (by rw[<-Ht.out,bi5 t hz,<-hq',<-hr'])⟩
    case measure =>
     exact zz140
theorem dp6:o3 (-1)=⟨#[45]⟩++(strOfNums [49]++⟨#[]⟩):=by
 unfold o3;rw[if_neg om,if_pos om];show _++b28 1 _=_;rw[bi5 _ om,bm2];rfl
theorem d30(w:World) :
 Calls Tryz.prog 45 #[.int .i64 (-1)] w fun e w'=>e=.returned (.string (o3 (-1)))∧Ext w w':=by
 have Hf:=zh dp6;go_in;go_wp2_with fail;go_loopw [0,3] (fun d s wr=>Ext w wr∧((d=.int .i64 (-1)∧s=.string ⟨#[]⟩)∨(d=.int .i64 0∧s=.string (strOfNums [49]++⟨#[]⟩)))) (fun d _ _=>(intOf d).natAbs);case atStart=>exact⟨er _,Or.inl ⟨rfl,rfl⟩⟩
 case round =>
  obtain⟨hE,⟨rfl,rfl⟩ | ⟨rfl,rfl⟩⟩:=hrel
  . have hcv:=bl5 wr 49;have hs1:(strOfNums [(49:Int)]).size=1:=strOfNums_size _;go_wp2_with fail;go_roundw;(case rel=>exact⟨hE.alloc _,Or.inr ⟨rfl,rfl⟩⟩);case measure=>(simp[intOf])
  . have hs1:(strOfNums [(49:Int)]++⟨#[]⟩).size=1:=(by rw[ByteArray.size_append,strOfNums_size];rfl);obtain⟨t,ht⟩:∃t,t=(strOfNums [(49:Int)]++⟨#[]⟩):=⟨_,rfl⟩;rw[<-ht] at hs1 Hf ⊢;go_wp2_with fail;go_ret;exact⟨j9 (by rw[Hf.out,ht]),hE⟩
theorem zz124{P:Prop}(h:P:=by go_in;go_wp2_with fail;go_ret;exact⟨j9 He.out.symm,er _⟩):P:=h
theorem A2(n:Int)(hn : -1<=n∧n<1000000000000)(w:World) :
 Calls Tryz.prog 45 #[.int .i64 n] w fun e w'=>e=.returned (.string (o3 n))∧Ext w w':=by
 rcases (by omega:n = -1∨n=0∨0<n) with rfl | rfl | h
 . exact d30 w
 . have e:o3 0=⟨#[48]⟩:=(by unfold o3;rw[if_pos rfl]);have He:=zh e;clear e;exact zz124
 . obtain⟨m,rfl⟩:=Int.eq_ofNat_of_zero_le (show 0<=n by omega);exact ct7 m om om w
def S0(l:List Int)(k:Nat):List Int:=(List.range l.length).map fun i=>if i<k∨l.length<=i+k then nth l (l.length - 1 - i) else nth l i
theorem T6(l:List Int)(k:Nat):(S0 l k).length=l.length:=by simp[S0]
theorem bc6(l:List Int)(k i:Nat)(h:i<l.length):nth (S0 l k) i=if i<k∨l.length<=i+k then nth l (l.length - 1 - i) else nth l i:=by
 simp[S0,nth,h]
theorem ct1{a b:List Int}(h:a.length=b.length)(H:∀i,i<a.length->nth a i=nth b i):a=b:=by
 apply List.ext_getElem h;intro i h1 h2;have:=H i h1;simpa[nth,h1,h2] using this
theorem dr2(l:List Int)(k i:Nat)(y:Int):nth (l.set k y) i=if i=k∧k<l.length then y else nth l i:=by
 unfold nth;by_cases h:i=k
 . subst h;by_cases h2:i<l.length
   . simp[h2]
   . simp[h2]
 . simp[h,List.getElem?_set_ne (Ne.symm h)]
theorem c46(l:List Int):S0 l 0=l:=ct1 (T6 _ _) fun i hi=>by
 rw[T6] at hi
 rw[bc6 _ _ _ hi,if_neg om]
theorem ch8(l:List Int)(k:Nat)(h:l.length<=2*k+1):S0 l k=l.reverse:=ct1 (by rw[T6];simp) fun i hi=>by
 rw[T6] at hi
 have e:nth l.reverse i=nth l (l.length - 1 - i):=by
  rw[bc2 _ _ (by simpa using hi),bc2 _ _ om];simp
 rw[bc6 _ _ _ hi,e]
 split
 . rfl
 . rw[show l.length - 1 - i=i by omega]
theorem c45(l:List Int)(k:Nat)(h:2*k+1<l.length) :
 ((S0 l k).set k (nth (S0 l k) (l.length - 1 - k))).set (l.length - 1 - k) (nth (S0 l k) k)=S0 l (k+1):=ct1 (by simp[T6]) fun i hi=>by
 simp only[List.length_set,T6] at hi
 rw[dr2,dr2,bc6 _ _ _ hi,bc6 _ _ _ hi,bc6 _ _ _ (show l.length - 1 - k<l.length by omega),bc6 _ _ _ (show k<l.length by omega)]
 simp only[List.length_set,T6]
 by_cases h1:i=l.length - 1 - k
 . rw[if_pos ⟨h1,om⟩,if_neg om,if_pos om,h1,show l.length - 1 - (l.length - 1 - k)=k by omega]
 . rw[if_neg om]
   by_cases h2:i=k
   . rw[if_pos ⟨h2,om⟩,if_neg om,if_pos om,h2]
   . rw[if_neg om]
     by_cases h3:i<k∨l.length<=i+k
     . rw[if_pos h3,if_pos om]
     . rw[if_neg h3,if_neg om]
theorem jt8:(Tryz.prog.info? 5).map (fun i=>(i.zero,i.size,i.bytes))=some (some (.int .u8 0),1,1):=by kernel_rfl
theorem ju4:Tryz.prog.underlying 22=some (.slice 5):=by kernel_rfl
def Q2(w0 w:World)(v:Value)(l:List Int):Prop :=
 w.ownsRow w0.heap.size 5 1 v l.length (l.map (Value.int .u8))∧l.length<=17592186044416
theorem Q2.alloc{w0 w:World}{v:Value}{l:List Int}(h:Q2 w0 w v l)(o:Obj):Q2 w0 (w.alloc o) v l:=⟨h.1.alloc o,h.2⟩
theorem Q2.blk{w0 w:World}{v:Value}{l:List Int}(h:Q2 w0 w v l):∀k,v.ownBlock=some k->w0.heap.size<=k∧k<w.heap.size:=h.1.lt
theorem Q2.shape{w0 w:World}{v:Value}{l:List Int}(h:Q2 w0 w v l)(h0:0<l.length) :
 ∃(g c:Nat),v=.slice (some ⟨g,0,none⟩) l.length c∧l.length<=c∧w0.heap.size<=g∧g<w.heap.size ∧
  (∀i,i<l.length->w.cell? ⟨g,i,none⟩=some (.int .u8 (nth l i))∧w.frozen? ⟨g,i,none⟩=false):=by
 obtain⟨h1,h2⟩:=h
 rcases h1.2 with ⟨rfl,hl⟩ | ⟨g,cap,cur,rfl,hg,hh,hc,r⟩
 . omega
 . refine⟨g,cap,rfl,hc,hg,(Array.getElem?_eq_some_iff.1 hh).1,fun i hi=>⟨?_,World.ownsRow.frozenAt h1 i⟩⟩
   rw[World.ownsRow.cellAt h1 i om]
   simp[nth,List.getD,hi]
theorem c38{w0 w:World}(hE:Ext w0 w):Q2 w0 (w.alloc (.cells #[] 5)) (.slice (some ⟨w.heap.size,0,none⟩) 0 0) []:=by
 have:=World.ownsRow_lit (base:=w0.heap.size) (e:=5) (size:=1) w #[] 0 hE.size (by unfold maxLen;omega) zm;exact⟨by simpa using this,zm⟩
theorem Q2.stored{w0 w:World}{g c:Nat}{l:List Int}(h:Q2 w0 w (.slice (some ⟨g,0,none⟩) l.length c) l)(j:Nat)(y:Int) :
 Q2 w0 (w.setCell ⟨g,j,none⟩ (.int .u8 y)) (.slice (some ⟨g,0,none⟩) l.length c) (l.set j y):=by
 have h1:=(World.ownsRow.stored h.1 j (.int .u8 y)).1;refine⟨?_,by simpa using h.2⟩;simpa[List.map_set] using h1
theorem Q2.grown{w0 w:World}{g c:Nat}{l:List Int}(h:Q2 w0 w (.slice (some ⟨g,0,none⟩) l.length c) l)(j:Nat)(y:Int) :
 w.grownBy (w.setCell ⟨g,j,none⟩ (.int .u8 y)) (Value.slice (some ⟨g,0,none⟩) l.length c).ownBlock:=(World.ownsRow.stored h.1 j (.int .u8 y)).2
section
variable {ops:Array Oper} {rest:List Oper} {o:Oper} {a:Act} {Q:Exit->Act->World->Prop}
theorem b24(hg:o.guard=none)(s x:Operand)(hop:o.op=Op.call { callee:=Callee.builtin Builtin.append,args:=#[s,x],argTypes:=#[22,22] })
 (w0 W:World) (v:Value) (l:List Int) (y:Int) (hO:Q2 w0 W v l) (hE:Ext w0 W) (hn:l.length<17592186044416) (hs:a.eval s=v) (hx:a.eval x=.slice (some ⟨W.heap.size,0,none⟩) 1 1)
 (hK:∀v' w',Q2 w0 w' v' (l++[y])->Ext w0 w'->wpList Tryz.prog ops Q rest (a.put o.dst v') w') :
 wpList Tryz.prog ops Q (o :: rest) a (W.alloc (.cells #[.int .u8 y] 5)):=by
 obtain⟨i,hi,hz,hs1,hby⟩:=info_parts jt8;refine wpList_append_own _ hg s x 22 hop w0.heap.size 5 i (.int .u8 0) 1 1 ju4 hi hz hs1 hby rfl om v l.length _ hs (hO.alloc _).1 ⟨W.heap.size,0,none⟩ 1 1 [.int .u8 y] hx rfl ?_ (by simp[Value.oneCell']) (by unfold maxLen;omega) om (by have:=hE.size;simp;omega) ?_
 . exact cell_one_new _ _ _
 . intro v' w' h1 hg' _;have hE1:=hE.alloc (.cells #[.int .u8 y] 5);exact zz109
end
theorem elB:Tryz.prog.underlying 22=some (.slice (Tryz.prog.elem 22)):=by kernel_rfl
theorem jf3:∀w,(Go.sizeOf (Tryz.prog.elem 22)).run Tryz.prog w=.ok 1 w:=fun w=>by kernel_rfl
def rd(m:Nat):List Int:=if m=0 then [] else (48+(m % 10:Nat)) :: rd (m / 10)
theorem bs4:rd 0=[]:=by rw[rd,if_pos rfl]
theorem bj7{m:Nat}(h:¬m=0):rd m=(48+((m % 10:Nat):Int)) :: rd (m / 10):=by rw[rd,if_neg h]
theorem c77(m:Nat):∀s,b28 m s=strOfNums (rd m).reverse++s:=by
 induction m using Nat.strongRecOn with
 | ind m ih =>
  intro s;by_cases h:m=0
  . subst h;rw[bm2,bs4];apply ByteArray.ext;simp[strOfNums]
  . rw[bi5 s h,ih (m / 10) om,bj7 h];apply ByteArray.ext;simp[strOfNums]
theorem Q2.cellAt{w0 w:World}{g n c:Nat}{l:List Int}(h:Q2 w0 w (.slice (some ⟨g,0,none⟩) n c) l)(hn:l.length=n)(i:Nat)(hi:i<n) :
 w.cell? ⟨g,i,none⟩=some (.int .u8 (nth l i))∧w.frozen? ⟨g,i,none⟩=false:=by
 subst hn;have h1:=h.1;exact⟨by rw[World.ownsRow.cellAt h1 i om];simp[nth,List.getD,hi],World.ownsRow.frozenAt h1 i⟩
theorem Q2.stored_grown{w0 w:World}{g n c:Nat}{l:List Int}(h:Q2 w0 w (.slice (some ⟨g,0,none⟩) n c) l)(hn:l.length=n)(j:Nat)(y:Int) :
 Q2 w0 (w.setCell ⟨g,j,none⟩ (.int .u8 y)) (.slice (some ⟨g,0,none⟩) n c) (l.set j y)∧w.grownBy (w.setCell ⟨g,j,none⟩ (.int .u8 y)) (some g):=by
 subst hn;exact⟨h.stored j y,h.grown j y⟩
theorem Q2.str{w0 w:World}{g n c:Nat}{l:List Int}(h:Q2 w0 w (.slice (some ⟨g,0,none⟩) n c) l)(hn:l.length=n) :
 (convert 22 9 (.slice (some ⟨g,0,none⟩) n c)).run Tryz.prog w=.ok (.string (strOfNums l)) w :=
 run_convert_bytes_arg (P:=Tryz.prog) _ 22 5 (by rfl) (by rfl) g 0 n c l hn (fun i hi=>by
  rw[Nat.zero_add];exact (h.cellAt hn i hi).1) _ (by rfl)
theorem zz33{P:Prop}(h:P:=by have hkj':=Hkj.out;have hj2:(S0 l k).length - 1 - k=jn:=(by rw[Hl2.out];omega);obtain⟨hO3,hG3⟩:=HO2.out.stored_grown Hl2.out k (nth (S0 l k) jn);obtain⟨hO4,hG4⟩:=hO3.stored_grown (by rw[List.length_set];exact Hl2.out) jn (nth (S0 l k) k);have hst:=c45 l k (by rw[<-HL.out];omega);rw[<-HL.out,show L - 1 - k=jn by omega] at hst;rw[hst] at hO4;exact⟨k+1,jn - 1,om,om,zg,zg,((hE2.grown hG3 (fun q hq=>by cases hq;exact hg0)).grown hG4 (fun q hq=>by cases hq;exact hg0)).drew,hO4⟩):P:=h
theorem d11(n:Nat)(hn:n<1000000000000)(hp:0<n)(w:World) :
 Calls Tryz.prog 98 #[.int .i64 n] w fun e w'=>e=.returned (.string (o3 n))∧Ext w w':=by
 have h0:¬(n:Int)=0:=om;have h1:¬(n:Int)<0:=om;have hO0:=c38 (er w);have hE0:=(er w).alloc (.cells #[] 5);go_in;go_wp2_with fail;go_loopw [3,4] (fun v d wr=>∃(m:Nat) (l:List Int),m<1000000000000∧d=.int .i64 m∧Ext w wr∧Q2 w wr v l∧l.length+m<=n∧l++rd m=rd n) (fun _ d _=>(intOf d).toNat);case atStart=>exact⟨n,[],hn,rfl,hE0,hO0,zm,zm⟩
 case round =>
  obtain⟨m,l,hm,rfl,hE,hO,hsz,hl⟩:=hrel;by_cases hz:m=0
  . subst hz;rw[bs4,List.append_nil] at hl;have hl0:0<l.length:=(by rw[hl,bj7 om];simp);obtain⟨g,c,rfl,hlc,hg0,hg1,hcell⟩:=hO.shape hl0;obtain⟨L,hL⟩:=nq (l.length);rw[<-hL] at hsz hl0 hlc;have hLn:L<=n:=om;have Hl:=zh hl;have HL:=zh hL;have HO:=zh hO;clear hl hL hO hcell hsz;rw[<-HL.out];have hixB:∀(i:Nat) W,i<L->(Instr.indexAt 22 (.slice (some ⟨g,0,none⟩) L c) (.int .i64 (i:Int))).run Tryz.prog W=.ok (.pointer (some ⟨g,i,none⟩)) W:=by
     intro i W hi;rw[run_indexAt_slice (h:=elB),if_pos om,jf3];exact zz71
    go_wp2_with fail;go_loopw [6,7] (fun i j wr=>∃(k jn:Nat),k<=jn+1∧jn+k+1=L∧i=.int .i64 k∧j=.int .i64 jn∧Ext w wr∧Q2 w wr (.slice (some ⟨g,0,none⟩) L c) (S0 l k)) (fun _ j _=>(intOf j).toNat);(case atStart=>exact⟨0,L - 1,om,om,rfl,zg,hE,by rw[c46,HL.out];exact HO.out⟩);case round =>
     obtain⟨k,jn,hk,hkj,rfl,rfl,hE2,hO2⟩:=hrel;have Hkj:=zh hkj;by_cases hlt:k<jn
     . have hkL:k<L:=(by omega);have hjL:jn<L:=om;clear hkj;have hl2:(S0 l k).length=L:=(by rw[T6,<-HL.out]);obtain⟨hck,hfk⟩:=hO2.cellAt hl2 k hkL;obtain⟨hcj,hfj⟩:=hO2.cellAt hl2 jn hjL;have Hl2:=zh hl2;have HO2:=zh hO2;clear hl2 hO2;have hne:¬k=jn:=om;have hne2:¬jn=k:=om;go_wp2_with fail;go_big_region;go_wp2_with fail;go_roundw;case rel =>
        exact zz33
       case measure=>exact zm1
     . clear hkj;have hcv:=hO2.str (by rw[T6,<-HL.out]);have He:Hid (strOfNums (S0 l k)=o3 n):=zh (by
        have hk':=Hkj.out;have hL':=HL.out;rw[ch8 l k om,Hl.out,d99 hp,c77];apply ByteArray.ext;simp)
       go_wp2_with fail;go_ret;exact⟨j9 He.out,hE2⟩
  . have h2:¬(m:Int)=0:=(by omega);obtain⟨r,hr⟩:∃r:Nat,(m:Int) % 10=r:=⟨m % 10,om⟩;have hr10:r<10:=om;obtain⟨q,hq⟩:∃q:Nat,(m:Int) / 10=q:=⟨m / 10,om⟩;have Hr:=zh (show r=m % 10 by omega);have Hq:=zh (show q=m / 10 by omega);have Hl:=zh hl;have Hsz:=zh hsz;have hlb:l.length<17592186044416:=om;clear hl hsz;go_wp2_with (at_builtin;refine b24 rfl _ _ rfl w _ _ _ _ hO hE hlb rfl rfl ?_;intro v1 w1 hO1 hE1);go_roundw;case rel =>
     have hq':=Hq.out;have hr':=Hr.out;have hs':=Hsz.out;exact⟨q,_,om,rfl,hE1,hO1,by (simp;omega),by rw[<-Hl.out,bj7 hz,<-hq',<-hr'];simp⟩
    case measure =>
     exact zz140
theorem d44(w:World) :
 Calls Tryz.prog 98 #[.int .i64 (-1)] w fun e w'=>e=.returned (.string (o3 (-1)))∧Ext w w':=by
 have hO0:=c38 (er w);have hE0:=(er w).alloc (.cells #[] 5);have Hf:=zh dp6;go_in;go_wp2_with fail;go_loopw [3,4] (fun v d wr=>Ext w wr∧((d=.int .i64 (-1)∧Q2 w wr v [])∨(d=.int .i64 0∧Q2 w wr v [49]))) (fun _ d _=>(intOf d).natAbs);case atStart=>exact⟨hE0,Or.inl ⟨rfl,hO0⟩⟩
 case round =>
  obtain⟨hE,⟨rfl,hO⟩ | ⟨rfl,hO⟩⟩:=hrel
  . go_wp2_with (at_builtin;refine b24 rfl _ _ rfl w _ _ _ _ hO hE zm rfl rfl ?_;intro v1 w1 hO1 hE1);go_roundw;(case rel=>exact⟨hE1,Or.inr ⟨rfl,hO1⟩⟩);case measure=>(simp[intOf])
  . go_wp2_with (at_builtin;go_loud (refine b24 rfl _ _ rfl w _ _ _ _ hO hE zm rfl rfl ?_;intro v1 w1 hO1 hE1;obtain⟨l,hl⟩:∃l:List Int,l=[49]++[45]:=⟨_,rfl⟩;rw[<-hl] at hO1;have hl0:0<l.length:=(by rw[hl];simp);obtain⟨g,c,hv,hlc,hg0,hg1,-⟩:=hO1.shape hl0;obtain⟨L,hL⟩:=nq (l.length);have hL2:L<=2:=(by rw[hL,hl];simp);rw[<-hL] at hl0 hlc hv;subst hv;have HL:=zh hL;have Hl:=zh hl;have HO:=zh hO1;clear hL hl hO1 hO));have hixB:∀(i:Nat) W,i<L->(Instr.indexAt 22 (.slice (some ⟨g,0,none⟩) L c) (.int .i64 (i:Int))).run Tryz.prog W=.ok (.pointer (some ⟨g,i,none⟩)) W:=by
     intro i W hi;rw[run_indexAt_slice (h:=elB),if_pos om,jf3];exact zz71
    go_wp2_with fail;go_loopw [6,7] (fun i j wr=>∃(k jn:Nat),k<=jn+1∧jn+k+1=L∧i=.int .i64 k∧j=.int .i64 jn∧Ext w wr∧Q2 w wr (.slice (some ⟨g,0,none⟩) L c) (S0 l k)) (fun _ j _=>(intOf j).toNat);(case atStart=>exact⟨0,L - 1,om,om,rfl,zg,hE1,by rw[c46];exact HO.out⟩);case round =>
     obtain⟨k,jn,hk,hkj,rfl,rfl,hE2,hO2⟩:=hrel;have Hkj:=zh hkj;by_cases hlt:k<jn
     . have hkL:k<L:=(by omega);have hjL:jn<L:=om;clear hkj;have hl2:(S0 l k).length=L:=(by rw[T6,<-HL.out]);obtain⟨hck,hfk⟩:=hO2.cellAt hl2 k hkL;obtain⟨hcj,hfj⟩:=hO2.cellAt hl2 jn hjL;have Hl2:=zh hl2;have HO2:=zh hO2;clear hl2 hO2;have hne:¬k=jn:=om;have hne2:¬jn=k:=om;go_wp2_with fail;go_big_region;go_wp2_with fail;go_roundw;case rel =>
        exact zz33
       case measure=>exact zm1
     . clear hkj;have hcv:=hO2.str (by rw[T6,<-HL.out]);have He:Hid (strOfNums (S0 l k)=o3 (-1)):=zh (by
        have hk':=Hkj.out;have hL':=HL.out;rw[ch8 l k om,Hl.out,Hf.out];rfl)
       go_wp2_with fail;go_ret;exact⟨j9 He.out,hE2⟩
theorem cq1(w:World) :
 Calls Tryz.prog 98 #[.int .i64 0] w fun e w'=>e=.returned (.string (o3 0))∧Ext w w':=by
 have e:o3 0=⟨#[48]⟩:=by unfold o3;rw[if_pos rfl]
 have He:=zh e;clear e;exact zz124
theorem A4(n:Int)(hn : -1<=n∧n<1000000000000)(w:World) :
 Calls Tryz.prog 98 #[.int .i64 n] w fun e w'=>e=.returned (.string (o3 n))∧Ext w w':=by
 rcases (by omega:n = -1∨n=0∨0<n) with rfl | rfl | h
 . exact d44 w
 . exact cq1 w
 . obtain⟨m,rfl⟩:=Int.eq_ofNat_of_zero_le (show 0<=n by omega);exact d11 m om om w
theorem jr2(k:Nat):∀m,m<10 ^ k->(rd m).length<=k:=by
 induction k with
 | zero=>intro m h;have:m=0:=by omega
         subst this;rw[bs4];simp
 | succ k ih =>
  intro m h;by_cases hm:m=0
  . subst hm;rw[bs4];simp
  . rw[bj7 hm];have:=ih (m / 10) (by rw[Nat.pow_succ] at h;omega);simp;omega
theorem bm1{m:Nat}(h:m<1000000000000):(b28 m ⟨#[]⟩).size<=12:=by
 rw[c77,ByteArray.size_append,strOfNums_size,List.length_reverse];have:=jr2 12 m om;have e:(⟨#[]⟩:ByteArray).size=0:=rfl;omega
theorem cw4{m:Nat}(h:0<m):1<=(b28 m ⟨#[]⟩).size:=by
 rw[c77,ByteArray.size_append,strOfNums_size,List.length_reverse,bj7 om];simp;omega
theorem zz99{P:Prop}(h:P:=by rw[ByteArray.size_append];have e:(⟨#[45]⟩:ByteArray).size=1:=rfl;omega):P:=h
theorem o9{n:Int}(h : -1<=n∧n<1000000000000):(o3 n).size<=13:=by
 unfold o3;split
 . decide
 . split
   . have:=bm1 (m:=n.natAbs) om;exact zz99
   . have:=bm1 (m:=n.natAbs) om;omega
theorem c21{n:Int}(h : -1<=n∧n<1000000000000):1<=(o3 n).size:=by
 unfold o3;split
 . decide
 . split
   . exact zz99
   . exact cw4 om
def jn(s:ByteArray)(f:Nat->ByteArray):Nat->ByteArray
 | 0=>⟨#[]⟩
 | k+1=>(if 0<k then jn s f k++s else jn s f k)++f k
theorem b69(s:ByteArray)(f:Nat->ByteArray):jn s f 1=⟨#[]⟩++f 0:=rfl
theorem b80(s:ByteArray)(f:Nat->ByteArray){k:Nat}(h:0<k):jn s f (k+1)=(jn s f k++s)++f k:=by
 show (if 0<k then _ else _)++_=_;rw[if_pos h]
theorem zz168{P:Prop}(h:P:=by intro h;have h1:=ih (fun i hi=>h i om);have h2:=h k om;unfold jn;split<;>simp only[ByteArray.size_append]<;>omega):P:=h
theorem b81(s:ByteArray)(f:Nat->ByteArray)(hs:s.size<=1):∀k,(∀i,i<k->(f i).size<=13)->(jn s f k).size<=14*k:=by
 intro k;induction k with
 | zero=>intro _;exact Nat.le_refl _
 | succ k ih =>
  exact zz168
theorem br5(s:ByteArray)(f:Nat->ByteArray)(k:Nat)(h:0<k)(hf:∀i,i<k->1<=(f i).size):1<=(jn s f k).size:=by
 obtain⟨j,rfl⟩:∃j,k=j+1:=⟨k - 1,om⟩;have:=hf j om;unfold jn;rw[ByteArray.size_append];omega
theorem bk5{t:ByteArray}(h:1<=t.size):t.toList.isEmpty=false:=by
 rw[ByteArray.toList_eq,List.isEmpty_eq_false_iff];intro h2;have h3:t.data.toList.length=0:=by rw[h2];rfl
 rw[Array.length_toList] at h3;have h4:t.size=t.data.size:=rfl;omega
def b44:ByteArray:=⟨#[44]⟩
end Go.Zz
