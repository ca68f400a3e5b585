/- Longest sequences no part of which has the sum zero: the program. -/
import Derived.Test.YtjhoafjeopcheaaGreatGr21
import Derived.Test.YtjhoafjeopcheaaGreatGr19
set_option linter.all false
set_option maxHeartbeats 2000000
set_option maxRecDepth 20000
namespace Go.Zz
open Go.RowKit Go.Proofs
variable(v:Value)(l:LI)(a:Int)(X:LN)(w:World){L:LN}{n k N i j f b fr:Nat}{c:Bool}{P:Nat->Bool}
theorem c8.fw{w W:World}{v:Value}{l:LI}{t:TypeId}{Q:Option Addr}{c:Nat}(h:c8 w v l)(B:Blk w b t #[.slice Q n c])(hF:Fw (fun k=>k=b) w W):c8 W v l:=by
 obtain⟨a,k,rfl,o,r,T⟩:=h;refine⟨a,k,rfl,o,r,fun i J=>?_⟩;obtain⟨p,rfl,C⟩:=T i J;refine⟨p,rfl,?_⟩;have U:=World.block_lt_of_cell? w _ C;have N:(p.add i).block≠b:=fun e=>by
  have P:w.heap[b]?=some (.cells #[.slice Q n c] t (0,0)):=B
  have H:=C
  unfold World.cell? at H
  rw[e,P]at H
  simp only at H
  split at H
  cases H
  cases q:(p.add i).off with
  |zero=>rw[q]at H;simp at H
  |succ j=>rw[q]at H;simp at H
 rw[World.cell?_of_block (w:=w) (hF.block _ U N)];exact C
def Bx(b:Nat)(k:Nat):Prop:=k=b
theorem l21(B:LN)(S:Int)(a o:Option Addr)(c C b:Nat)(w:World)(D:Blk w b 40 #[.slice o B.length C])(u:X.length<=24)(l:B.length<=24):Calls Tryz.prog 244 #[.slice a X.length c,vi S,.pointer (some (aD b 0))] w fun e W=>e=.returned (.tuple #[])/\Blk W b 40 #[if B.length<X.length then .slice a X.length c else .slice o B.length C]/\Fw (Bx b) w W:=by
 have k:=D.cell (i:=0) (v:=.slice o B.length C) rfl;have f:=D.free 0;by_cases q:B.length<X.length
 . have x:Blk (w.setCell (aD b 0) (.slice a X.length c)) b 40 #[.slice a X.length c]:=D.set 0 _;have hF:=bn5 (S:=Bx b) rfl w 0 (.slice a X.length c);have I:((B.length:Nat):Int)<((X.length:Nat):Int):=om;have H:=zh q;clear D q;go_in;go_wp2_with fail;go_end0;exact⟨rfl,x,hF⟩
 have I:¬((B.length:Nat):Int)<((X.length:Nat):Int):=om;have H:=zh q;clear q;go_in;go_wp2_with fail;go_end0;exact⟨rfl,D,Fw.refl _ _⟩
def frm(X:LN):Nat:=if X.length=0 then 1 else d5 X (X.length-1)
theorem dw2(k:Nat):frm (X++[k])=k:=by
 unfold frm;simp[d5,List.getD]
theorem l24{l:LI}(H:d7 l=true)(f:Nat)(X:LN)(S m:Nat)(b:LN)(s:S<2^ord l)(h:S.testBit 0=false)(u:∀x∈X,x<ord l)(L:X.length<=cnt S)(C:b.length<=24):(zfI l f X S m b).length<=24:=by
 rw[l23];split;exact(l27 H f X S m s h u L).2;exact C
theorem zz66{P:Prop}(h:P:=by have M:=fun W=>T2 N 0 hc om W t;have H:=zh (Ho.o t);clear t;go_wp2_with(go_at_call 205;refine cm (M _) fun P hb=>?_;subst hb);go_roundw;exact⟨k+1,aR,cR,om,om,zg,by rw[H.o];exact HR.o.ext I,by rw[H.o];exact Hc.o.ext I,by rw[H.o];exact hl,Hr.o.trans (I.fw _)⟩;exact zm1):P:=h
theorem zz67{P:Prop}(h:P:=by have hh:k=ord l:=om;have H:=zh (show zfI l (f+1) X S m p=L4 l f X S m p k by rw[He.o,hh]);clear hh;go_wp2_with(go_at_call 153;refine cm cO fun G z=>?_);go_end0;exact⟨rfl,aR,cR,by rw[H.o];exact HR.o.ext z,by rw[H.o];exact Hc.o.ext z,Hi.o.trans (Hr.o.trans (z.fw _))⟩):P:=h
theorem lz0(R:Hid (d7 l=true))(W0:World)(A:Nat)(aA:W0.heap.size<=A)(HI:Hid (∀W,Ext W0 W->c8 W v l)):∀(f:Nat) (X p:LN) (S m:Nat) (r aB:Option Addr) (C L:Nat) (w:World),Ext W0 w->c8 w (.slice r X.length C) (b9 X)->Blk w A 40 #[.slice aB p.length L]->c8 w (.slice aB p.length L) (b9 p)->p.length<=24->S<2^ord l->S.testBit 0=false->frm X=m->m<=ord l->ord l<cnt S+f->X.length<=cnt S->(∀x∈X,x<ord l) ->
 Calls Tryz.prog 243 #[.agg #[v],.slice r X.length C,vi S,.func (.func 244) #[] #[.pointer (some (aD A 0))]] w fun e P=>e=.returned (.tuple #[])/\∃Q c,Blk P A 40 #[.slice Q (zfI l f X S m p).length c]/\c8 P (.slice Q (zfI l f X S m p).length c) (b9 (zfI l f X S m p))/\Fw (Bx A) w P:=by
 intro f;induction f with
 |zero=>intro X p S m r aB C L w D hX hA ab ae s h0 hV hm hf;have:=bf1 R.o s;omega
 | succ f ih =>
  intro X p S m r aB C L w D hX hA ab ae s h0 hV hm hf aI ak;have aH:=l8 R.o;have hT:=E7 R.o;have hx:S<2^24:=nlt s hT;have aJ:=p8 S;have ap:X.length<=24:=om;obtain⟨B,hs⟩:=nq (w.alloc (.cells #[v] 42));have F:Ext w B:=by rw[hs];exact(er _).alloc _
  have BG:Blk B w.heap.size 42 #[v]:=by rw[hs];exact oq _ _ _
  have hu:w.heap.size≠A:=by have:=hA.lt;omega
  have Z:=zh hs;have Hh:=zh ih;have hg:=hA.ext F;have hw:=hX.ext F;have aG:=ab.ext F;have aq:=D.trans F;have Hi:=zh (F.fw (Bx A));clear ih hX hA ab hs F;have He:=zh (l25 l f X S m p);have Ht:=zh (jb8 l f X S m p);have cV:=l21 X p S r aB C L A B hg ap ae;have au:∀k,Bx A k->W0.heap.size<=k:=fun k V=>by rw[V];exact aA
  have HK:Hid (∀G,Blk G A 40 #[if p.length<X.length then .slice r X.length C else .slice aB p.length L]->Fw (Bx A) B G->∃aa c0,Blk G A 40 #[.slice aa (L4 l f X S m p m).length c0]/\c8 G (.slice aa (L4 l f X S m p m).length c0) (b9 (L4 l f X S m p m))/\(L4 l f X S m p m).length<=24):=zh fun G hC an=>by
   rw[Ht.o]
   by_cases hq:p.length<X.length
   . rw[if_pos hq]at hC
     rw[if_pos hq]
     exact⟨r,C,hC,hw.fw hg an,ap⟩
   . rw[if_neg hq]at hC
     rw[if_neg hq]
     exact⟨aB,L,hC,aG.fw hg an,ae⟩
  by_cases hz:X.length=0
  . have Hm:Hid ((1:Int)=(m:Int)):=zh (by rw[<-hV];unfold frm;rw[if_pos hz];rfl);have ad:¬(0:Int)<((X.length:Nat):Int):=om;clear hz;go_in;go_wp2_with fail;rw[<-Z.o];refine cV.mono ?_;rintro e G⟨rfl,hv,J⟩;obtain⟨aa,c0,ho⟩:=HK.o G hv J;have Hb:=zh ho;have Hg:=zh J;clear hv J ho cV HK;go_wp2_with fail;obtain⟨da,hn⟩:∃d:Bool,d=decide (0<X.length):=⟨_,rfl⟩;rw[<-hn];clear hn ad;go_loopw [9] (fun j wr=>∃(k:Nat) (Q:Option Addr) (c:Nat),m<=k/\k<=ord l/\j=vi k/\Blk wr A 40 #[.slice Q (L4 l f X S m p k).length c]/\c8 wr (.slice Q (L4 l f X S m p k).length c) (b9 (L4 l f X S m p k))/\(L4 l f X S m p k).length<=24/\Fw (Bx A) B wr) (fun j _=>ord l-(intOf j).toNat);exact⟨m,aa,c0,oc _,hm,by first|rfl|rw[Hm.o],Hb.o.1,Hb.o.2.1,Hb.o.2.2,Hg.o⟩;case round =>
     obtain⟨k,aR,cR,hG,ax,rfl,hp,hR,hl,hF⟩:=hrel;have u:=hF.ext aq au;have Br:=hF.blk BG hu;have Hd:=zh (hw.fw hg hF);have kG:=Br.atc 0 rfl;have cO:=p9 v l wr (HI.o _ u) R;have aE:=er wr;have Hr:=zh hF;have HR:=zh hp;have Hc:=zh hR;clear hF hp hR;by_cases U:k<ord l
     . have hj:k<24:=om;have g:=bv2 R.o s U;have hY:=be2 R.o s h0 U;have hc:nxS l S k<2^24:=nlt g hT;have hP:=K8 R.o S k;have q1:=o6 (n:=k) om;have q2:ior (S:Int) (j6 l S k:Int)=((S ||| j6 l S k:Nat):Int):=R5 om om;have q3:ior ((S ||| j6 l S k:Nat):Int) ((pw k:Nat):Int)=((nxS l S k:Nat):Int):=H9 (ox hx hP) hj;have Ho:=zh (fun h=>j73 (l:=l) (f:=f) (X:=X) (S:=S) (m:=m) (k:=k) (b:=p) h);have Ha:=zh (fun h=>dl2 (l:=l) (f:=f) (X:=X) (S:=S) (m:=m) (k:=k) (b:=p) hG h);obtain⟨N,hi⟩:=nq (nxS l S k);rw[<-hi]at g hY hc q3 Ho Ha;have cS:=fun W (D:Ext wr W)=>M8 v l S k W (HI.o _ (u.trans D)) R hx hj;clear hi;go_wp2_with(go_at_call 153;refine cm cO fun G z=>?_);have hD:=fun UU=>kG _ (z.trans (c9 G UU));have E:=er G;refine wl E ?_;(repeat(go_big_quiet_step(first|(go_at_call 196;exact oa (cS _ (z.trans (c9 G _)))))));refine zd fun W E=>?_;rename World=>w2;have I:=z.trans E;clear hD cS;cases t:N.testBit 0
       . have M:=fun W=>T2 N 0 hc om W t;have ai:=u.trans I;have Bb:=Br.ext I;have K:(X++[k]).length=X.length+1:=zm;have he:∀x∈X++[k],x<ord l:=by
          intro y Y;rw[oP,oE]at Y;rcases Y with Y|rfl
          . exact ak y Y
          . exact U
         have hO:∀W O cN,Ext w2 W->c8 W (.slice O (X.length+1) cN) (b9 (X++[k]))->Calls Tryz.prog 243 #[.agg #[v],.slice O (X.length+1) cN,vi N,.func (.func 244) #[] #[.pointer (some (aD A 0))]] W fun e P=>e=.returned (.tuple #[])/\∃Q c,Blk P A 40 #[.slice Q (L4 l f X S m p (k+1)).length c]/\c8 P (.slice Q (L4 l f X S m p (k+1)).length c) (b9 (L4 l f X S m p (k+1)))/\Fw (Bx A) W P:=fun W O cN D hI=>by
          have q:=Hh.o (X++[k]) (L4 l f X S m p k) N k O aR cN cR W (ai.trans D) (by rw[K];exact hI) (HR.o.ext (I.trans D)) (Hc.o.ext (I.trans D)) hl g t (dw2 X k) om om (by rw[K];omega) he
          rw[K,<-Ha.o t]at q
          exact q
         have ah:(L4 l f X S m p (k+1)).length<=24:=by
          rw[Ha.o t];exact l24 R.o f (X++[k]) N k _ g t he (by rw[K];omega) hl
         have Hf:=zh (fun W (D:Ext w2 W)=>Hd.o.ext (I.trans D));have hJ:(b9 X).length+[(k:Int)].length<=17592186044416:=(by rw[d9];simp;omega);have ka:=sh I kG;have af:=zh (Hr.o.trans (I.fw (Bx A)));clear t K he kG z;replace E:=er w2;go_wp2_with(go_at_call 205;refine cm (M _) fun P hb=>?_;subst hb);first|(go_region_held3 (fun W=>W.cell? (aD w.heap.size 0)=some v) (first|exact hU|exact ka _ xr) (first|(go_at_call 170;(with_reducible refine od (Calls.sh (E3 _ _ _ (Hf.o _ xr))) ?_);rintro eC wC⟨aC,cC,rfl,hH,hXC⟩;have az:=og (a:=w2) xr hXC;have hZ:=hH.mono (show Ext w2 _ by repeat(first|(with_reducible assumption)|(with_reducible exact er _)|(with_reducible apply pB)|(with_reducible apply oQ)|(with_reducible (apply pA;assumption)))))|(go_at_call 243;(with_reducible refine od (hO _ _ _ xr (Own.ints (by repeat(first|(with_reducible exact hQ)|(with_reducible apply Own.alloc)|(with_reducible apply Own.drew))))) ?_);rintro eF wF⟨rfl,aF,cF,ac,ag,hr⟩;have hU:=(hr.blk (Bb.ext xr) hu).cell (i:=0) (v:=v) rfl)|(have ha:=hZ;refine q9 slI rfl _ _ rfl w2 w2 _ _ (b9 X) [(k:Int)] (Or.inr (by first|exact ha|exact ha.alloc _|exact(ha.alloc _).drew)) (Blk.ints1 (T:=3) zq2) xr hJ rfl rfl ?_;intro vD wD hM hK ay;obtain⟨O,cN,rfl,hQ,hL⟩:=NxP.of hM hK)))|(fail "the region")
         all_goals
          go_wp2_with fail
          go_roundw
          case rel=>exact⟨k+1,aF,cF,om,om,zg,ac,ag,ah,af.o.trans ((hL.fw _).trans hr)⟩
          case measure=>exact zm1
       . exact zz66
     . exact zz67
  . have ad:(0:Int)<((X.length:Nat):Int):=om;have av:X.length-1<X.length:=om;have Hj:Hid (d5 X (X.length-1)=m):=zh (by rw[<-hV];unfold frm;rw[if_neg hz]);have Hm:Hid ((m:Int)=(m:Int)):=zh rfl;clear hz;go_in;go_wp2_with fail;rw[<-Z.o];refine cV.mono ?_;rintro e G⟨rfl,hv,J⟩;obtain⟨aa,c0,ho⟩:=HK.o G hv J;obtain⟨aK,c',aX,ar,al,am⟩:=(hw.fw hg J).nats;have aj:=j2 (c:=c') elI szI al;simp only[Value.slice.injEq]at ar;obtain⟨rfl,-,rfl⟩:=ar;have ia:∀W,(Instr.indexAt 40 (.slice r X.length C) (vi ((X.length:Int)-1))).run Tryz.prog W=.ok (.pointer (some (aX (X.length-1)))) W:=fun W=>(by rw[show((X.length:Int)-1)=((X.length-1:Nat):Int) by omega];exact aj _ W av);have aw:G.cell? (aX (X.length-1))=some (vi (m:Int)):=(by rw[<-Hj.o];exact am _ _ av (er _));have Hb:=zh ho;have Hg:=zh J;clear hv J ho cV HK aj am al;go_wp2_with fail;obtain⟨da,hn⟩:∃d:Bool,d=decide (0<X.length):=⟨_,rfl⟩;rw[<-hn];clear hn ad ia aw;go_loopw [9] (fun j wr=>∃(k:Nat) (Q:Option Addr) (c:Nat),m<=k/\k<=ord l/\j=vi k/\Blk wr A 40 #[.slice Q (L4 l f X S m p k).length c]/\c8 wr (.slice Q (L4 l f X S m p k).length c) (b9 (L4 l f X S m p k))/\(L4 l f X S m p k).length<=24/\Fw (Bx A) B wr) (fun j _=>ord l-(intOf j).toNat);exact⟨m,aa,c0,oc _,hm,by first|rfl|rw[Hm.o],Hb.o.1,Hb.o.2.1,Hb.o.2.2,Hg.o⟩;case round =>
     obtain⟨k,aR,cR,hG,ax,rfl,hp,hR,hl,hF⟩:=hrel;have u:=hF.ext aq au;have Br:=hF.blk BG hu;have Hd:=zh (hw.fw hg hF);have kG:=Br.atc 0 rfl;have cO:=p9 v l wr (HI.o _ u) R;have aE:=er wr;have Hr:=zh hF;have HR:=zh hp;have Hc:=zh hR;clear hF hp hR;by_cases U:k<ord l
     . have hj:k<24:=om;have g:=bv2 R.o s U;have hY:=be2 R.o s h0 U;have hc:nxS l S k<2^24:=nlt g hT;have hP:=K8 R.o S k;have q1:=o6 (n:=k) om;have q2:ior (S:Int) (j6 l S k:Int)=((S ||| j6 l S k:Nat):Int):=R5 om om;have q3:ior ((S ||| j6 l S k:Nat):Int) ((pw k:Nat):Int)=((nxS l S k:Nat):Int):=H9 (ox hx hP) hj;have Ho:=zh (fun h=>j73 (l:=l) (f:=f) (X:=X) (S:=S) (m:=m) (k:=k) (b:=p) h);have Ha:=zh (fun h=>dl2 (l:=l) (f:=f) (X:=X) (S:=S) (m:=m) (k:=k) (b:=p) hG h);obtain⟨N,hi⟩:=nq (nxS l S k);rw[<-hi]at g hY hc q3 Ho Ha;have cS:=fun W (D:Ext wr W)=>M8 v l S k W (HI.o _ (u.trans D)) R hx hj;clear hi;go_wp2_with(go_at_call 153;refine cm cO fun G z=>?_);have hD:=fun UU=>kG _ (z.trans (c9 G UU));have E:=er G;refine wl E ?_;(repeat(go_big_quiet_step(first|(go_at_call 196;exact oa (cS _ (z.trans (c9 G _)))))));refine zd fun W E=>?_;rename World=>w2;have I:=z.trans E;clear hD cS;cases t:N.testBit 0
       . have M:=fun W=>T2 N 0 hc om W t;have ai:=u.trans I;have Bb:=Br.ext I;have K:(X++[k]).length=X.length+1:=zm;have he:∀x∈X++[k],x<ord l:=by
          intro y Y;rw[oP,oE]at Y;rcases Y with Y|rfl
          . exact ak y Y
          . exact U
         have hO:∀W O cN,Ext w2 W->c8 W (.slice O (X.length+1) cN) (b9 (X++[k]))->Calls Tryz.prog 243 #[.agg #[v],.slice O (X.length+1) cN,vi N,.func (.func 244) #[] #[.pointer (some (aD A 0))]] W fun e P=>e=.returned (.tuple #[])/\∃Q c,Blk P A 40 #[.slice Q (L4 l f X S m p (k+1)).length c]/\c8 P (.slice Q (L4 l f X S m p (k+1)).length c) (b9 (L4 l f X S m p (k+1)))/\Fw (Bx A) W P:=fun W O cN D hI=>by
          have q:=Hh.o (X++[k]) (L4 l f X S m p k) N k O aR cN cR W (ai.trans D) (by rw[K];exact hI) (HR.o.ext (I.trans D)) (Hc.o.ext (I.trans D)) hl g t (dw2 X k) om om (by rw[K];omega) he
          rw[K,<-Ha.o t]at q
          exact q
         have ah:(L4 l f X S m p (k+1)).length<=24:=by
          rw[Ha.o t];exact l24 R.o f (X++[k]) N k _ g t he (by rw[K];omega) hl
         have Hf:=zh (fun W (D:Ext w2 W)=>Hd.o.ext (I.trans D));have hJ:(b9 X).length+[(k:Int)].length<=17592186044416:=(by rw[d9];simp;omega);have ka:=sh I kG;have af:=zh (Hr.o.trans (I.fw (Bx A)));clear t K he kG z;replace E:=er w2;go_wp2_with(go_at_call 205;refine cm (M _) fun P hb=>?_;subst hb);first|(go_region_held3 (fun W=>W.cell? (aD w.heap.size 0)=some v) (first|exact hU|exact ka _ xr) (first|(go_at_call 170;(with_reducible refine od (Calls.sh (E3 _ _ _ (Hf.o _ xr))) ?_);rintro eC wC⟨aC,cC,rfl,hH,hXC⟩;have az:=og (a:=w2) xr hXC;have hZ:=hH.mono (show Ext w2 _ by repeat(first|(with_reducible assumption)|(with_reducible exact er _)|(with_reducible apply pB)|(with_reducible apply oQ)|(with_reducible (apply pA;assumption)))))|(go_at_call 243;(with_reducible refine od (hO _ _ _ xr (Own.ints (by repeat(first|(with_reducible exact hQ)|(with_reducible apply Own.alloc)|(with_reducible apply Own.drew))))) ?_);rintro eF wF⟨rfl,aF,cF,ac,ag,hr⟩;have hU:=(hr.blk (Bb.ext xr) hu).cell (i:=0) (v:=v) rfl)|(have ha:=hZ;refine q9 slI rfl _ _ rfl w2 w2 _ _ (b9 X) [(k:Int)] (Or.inr (by first|exact ha|exact ha.alloc _|exact(ha.alloc _).drew)) (Blk.ints1 (T:=3) zq2) xr hJ rfl rfl ?_;intro vD wD hM hK ay;obtain⟨O,cN,rfl,hQ,hL⟩:=NxP.of hM hK)))|(fail "the region")
         all_goals
          go_wp2_with fail
          go_roundw
          case rel=>exact⟨k+1,aF,cF,om,om,zg,ac,ag,ah,af.o.trans ((hL.fw _).trans hr)⟩
          case measure=>exact zm1
       . exact zz66
     . exact zz67
theorem cc8(h:c8 w v l):Calls Tryz.prog 158 #[.agg #[v]] w fun e P=>∃Q c,e=.returned (.tuple #[.slice Q (lzL l).length c,.bool (lzB l)])/\c8 P (.slice Q (lzL l).length c) (b9 (lzL l))/\Ext w P:=by
 obtain⟨B,Z,F,C,H,E,Hz⟩:=m04 42 h;clear h;have hx:=C B E;have g:=o9 v l B (H _ E);cases Y:d7 l;exact zz40;rw[Y]at g;have R:=zh Y;have hq:=l8 Y;have q:=fun W (D:Ext B W)=>p9 v l W (H _ D) R;by_cases M:ord l<=9;rotate_left
 . have b:lzB l=false:=(by unfold lzB;rw[Y];simpa using M);have N:=zh (And.intro b (dn8 b));clear b;go_in;go_wp2_with fail;rw[<-Z.o];refine cm g fun G z=>?_;have hc:=C G z;go_wp2_with(refine cm (q _ z) fun m I=>?_);exact zz85
 have b:lzB l=true:=by unfold lzB;rw[Y];simpa using M
 have N:=zh (And.intro b (jv7 b));have hs:∀(fn:Fn) (first cap:Array Value) (w:World),(Instr.makeFunc fn first cap).run Tryz.prog w=.ok (.func fn first cap) w:=fun _ _ _ _=>rfl;have ha:(zfI l (ord l+1) [] 0 1 [])=zfS l (ord l+1) [] 0 1:=by
  rw[l23];split;rfl;next h=>exact(oF (by simp at h;rw[h];rfl)).symm
 have K:=fun (J W:World) (A:Nat) (O:Option Addr) (y:Nat) (aX:Option Addr) (cX:Nat) (hl:Ext B J) (D:Ext J W) (hj:J.heap.size<=A) (he:Blk W A 40 #[.slice O 0 y]) (hh:c8 W (.slice O 0 y) []) (hX:c8 W (.slice aX 0 cX) []) =>
  lz0 v l R J A hj (zh fun W' hf=>H _ (hl.trans hf)) (ord l+1) [] [] 0 1 aX O cX y W D hX he hh zm (qO _) zm rfl om (by simp[Z1]) zm zm
 rw[ha]at K;obtain⟨ZZ,L⟩:=nq (zfS l (ord l+1) [] 0 1);rw[<-L]at K N;clear b Y L ha;go_in;go_wp2_with fail;rw[<-Z.o];refine cm g fun G z=>?_;have hc:=C G z;go_wp2_with(go_at_call 153;refine cm (q _ z) fun m I=>?_;have s:=z.trans I;have hp:=C m s;have hr:=C _ ((s.alloc (.cells #[] 3)).alloc (.cells #[.slice (some (aD m.heap.size 0)) 0 0] 40)));obtain⟨X,U⟩:=nq (m.alloc (.cells #[] 3));obtain⟨x,r⟩:=nq (X.alloc (.cells #[.slice (some (aD m.heap.size 0)) 0 0] 40));obtain⟨p,T⟩:=nq (x.alloc (.cells #[] 3));have s1:X.heap.size=m.heap.size+1:=by rw[U];simp
 have s2:x.heap.size=m.heap.size+1+1:=by rw[r];simp[s1]
 rw[<-U,<-r,<-T];have S:Ext m X:=by rw[U];exact(er _).alloc _
 have j:Ext X x:=by rw[r];exact(er _).alloc _
 have d:Ext x p:=by rw[T];exact(er _).alloc _
 have O1:Own 3 m X (.slice (some (aD m.heap.size 0)) 0 0) []:=by rw[U];exact l9 (TI:=3) (n:=0) om (er m) [] rfl
 have B2:Blk x (m.heap.size+1) 40 #[.slice (some (aD m.heap.size 0)) 0 0]:=by rw[r,<-s1];exact oq _ _ _
 have O3:Own 3 x p (.slice (some (aD (m.heap.size+1+1) 0)) 0 0) []:=by rw[T,<-s2];exact l9 (TI:=3) (n:=0) om (er x) [] rfl
 refine(K m p (m.heap.size+1) _ _ _ _ s (S.trans (j.trans d)) om (B2.ext d) (O1.ints.ext (j.trans d)) O3.ints).mono ?_;rintro e w4⟨rfl,aZ,cZ,hn,hi,ho⟩;have kz:=hn.cell (i:=0) (v:=.slice aZ ZZ.length cZ) rfl;have f:Ext m w4:=ho.ext (S.trans (j.trans d)) (fun k V=>by rw[V];omega);go_wp2_with fail;exact br (.tuple #[.slice aZ ZZ.length cZ,.bool true]) ⟨_,_,by rw[N.o.1,N.o.2],by rw[N.o.2];exact hi,F.trans (s.trans f)⟩
theorem bz2(h:c8 w v l):Calls Tryz.prog 285 #[.agg #[v],vi a] w (RE w (.bool (cl7 l a))):=by
 obtain⟨B,Z,F,C,H,E,s⟩:=m04 42 h;clear h;have b:=C B E;cases S:j0 l a
 . have N:=zh (lo4 S);go_in;go_wp2_with fail;rw[<-Z.o];go_wp2_with(first|(go_at_call 124;refine cx (m6 _ _ _ _ (H _ E) (S)) E fun W E=>?_));exact zz9
 have N:Hid (∀n:Nat,a=n->cl7 l a=((genF l n:Int) == (n:Int))):=zh (fun n e=>by subst e;exact j50 S);obtain⟨n,m,U,r,Y⟩:=l7 S;subst m;have R:=zh Y;clear Y;go_in;go_wp2_with fail;rw[<-Z.o];go_wp2_with(first|(go_at_call 124;refine cx (m6 _ _ _ _ (H _ E) (S)) E fun W E=>?_)|(go_at_call 212;refine cx (bo9 _ _ _ _ (H _ E) (R) (r)) E fun W E=>?_));go_ret;exact⟨j1 (by rw[N.o n rfl]),F.trans E⟩
theorem d68(h:c8 w v l){b:Bool}(C:cl7 l a=b):Calls Tryz.prog 285 #[.agg #[v],vi a] w (RE w (.bool b)):=by
 subst C;exact bz2 v l a w h
theorem j76(h:c8 w v l):Calls Tryz.prog 267 #[.agg #[v],vi a] w (RE w (.bool (b83 l a))):=by
 obtain⟨B,Z,F,C,H,E,s⟩:=m04 42 h;clear h;have b:=C B E;cases S:j0 l a
 . have N:=zh (cm7 (P5 S));go_in;go_wp2_with fail;rw[<-Z.o];go_wp2_with(first|(go_at_call 180;refine cx (q6 _ _ _ _ (H _ E) (S)) E fun e E=>?_));exact zz9
 obtain⟨n,rfl,U,r,Y⟩:=l7 S;by_cases T:n=0
 . subst T;have N:=zh (cm7 (J7 l));go_in;go_wp2_with fail;rw[<-Z.o];go_wp2_with(first|(go_at_call 180;refine cx (q6 _ _ _ _ (H _ E) (S)) E fun e E=>?_));go_ret;exact⟨j1 (by have:=N.o;simp_all),F.trans E⟩
 have N:=zh (df9 (Q4 S om));have f:((n:Int) != 0)=true:=zso;clear Y T;go_in;go_wp2_with fail;rw[<-Z.o];go_wp2_with(first|(go_at_call 180;refine cx (q6 _ _ _ _ (H _ E) (S)) E fun e E=>?_)|(go_at_call 319;refine cx (c22 _ _ _ _ (H _ E)) E fun e E=>?_));exact zz9
theorem b76(h:c8 w v l)(H:b83 l a=c):Calls Tryz.prog 267 #[.agg #[v],vi a] w (RE w (.bool c)):=by subst H;exact j76 v l a w h
theorem j32(h:c8 w v l):Calls Tryz.prog 225 #[.agg #[v],vi a] w (RE w (.bool (b83 l a))):=by
 obtain⟨B,Z,F,C,H,E,s⟩:=m04 42 h;clear h;have b:=fun U=>C _ (c9 B U);cases S:j0 l a
 . have N:=zh (cm7 (P5 S));go_in;go_wp2_with fail;rw[<-Z.o];refine wl E ?_;(repeat(go_big_quiet_step(first|(go_at_call 124;exact oa (m6 _ _ _ _ (H _ (c9 B _)) (S))))));refine zd fun W E=>?_;go_wp2_with fail;exact zz9
 obtain⟨n,rfl,V,r,Y⟩:=l7 S;by_cases T:n=0
 . subst T;have N:=zh (cm7 (J7 l));go_in;go_wp2_with fail;rw[<-Z.o];refine wl E ?_;(repeat(go_big_quiet_step(first|(go_at_call 124;exact oa (m6 _ _ _ _ (H _ (c9 B _)) (S))))));refine zd fun W E=>?_;go_wp2_with fail;go_ret;exact⟨j1 (by have:=N.o;simp_all),F.trans E⟩
 have N:=zh (l46 (Q4 S om));have f:(0:Int)<(n:Int):=om;have k:0<n:=om;have R:=zh Y;obtain⟨-,-,-,L⟩:=c90 T r;have m:=bk7 Y (R1 n);clear Y;go_in;go_wp2_with fail;rw[<-Z.o];refine wl E ?_;(repeat(go_big_quiet_step(first|(go_at_call 124;exact oa (m6 _ _ _ _ (H _ (c9 B _)) (S)))|(go_at_call 287;exact oT (di3 _ (T) (r) _))|(go_at_call 286;exact oa (b44 _ _ _ _ (H _ (c9 B _)) R om))|(go_at_call 221;exact oa (M4 _ _ _ _ _ (H _ (c9 B _)) (R) (r) (m)))|(go_at_call 285;exact oa (bz2 _ _ _ _ (H _ (c9 B _)))))));refine zd fun W E=>?_;go_wp2_with fail;go_ret;exact⟨j1 (by rw[N.o]),F.trans E⟩
theorem b49(h:c8 w v l)(H:b83 l a=c):Calls Tryz.prog 225 #[.agg #[v],vi a] w (RE w (.bool c)):=by subst H;exact j32 v l a w h
def bl1(l:LI)(a:Int):Bool:=decide (0<(Q9 l a).length)
theorem cp6(h:c8 w v l):Calls Tryz.prog 268 #[.agg #[v],vi a] w (RE w (.bool (bl1 l a))):=by
 obtain⟨B,Z,F,C,H,E,s⟩:=m04 42 h;clear h;have b:=C B E;go_in;go_wp2_with fail;rw[<-Z.o];go_wp2_with(first|(go_at_call 277;refine(Calls.sh (bb4 _ _ _ _ (H _ E))).mono ?_;rintro e G⟨Q,c,rfl,O,V⟩;replace E:=E.trans V;clear V));go_ret;exact⟨j1 (by unfold bl1;rw[oA];try simp),F.trans E⟩
theorem b34(h:c8 w v l)(H:bl1 l a=c):Calls Tryz.prog 268 #[.agg #[v],vi a] w (RE w (.bool c)):=by subst H;exact cp6 v l a w h
theorem ck0(h:c8 w v l):Calls Tryz.prog 227 #[.agg #[v],vi a] w (RE w (.bool (bl1 l a))):=by
 obtain⟨B,Z,F,C,H,E,s⟩:=m04 42 h;clear h;have b:=C B E;go_in;go_wp2_with fail;rw[<-Z.o];go_wp2_with(first|(go_at_call 288;refine(Calls.sh (ba3 _ _ _ _ (H _ E))).mono ?_;rintro e G⟨Q,c,rfl,O,V⟩;replace E:=E.trans V;clear V));go_ret;exact⟨j1 (by unfold bl1;rw[oA];try simp),F.trans E⟩
theorem b23(h:c8 w v l)(H:bl1 l a=c):Calls Tryz.prog 227 #[.agg #[v],vi a] w (RE w (.bool c)):=by subst H;exact ck0 v l a w h
theorem c8.natc{w:World}{v:Value}(h:c8 w v (b9 L)):∃(Q:Option Addr) (c:Nat) (a:Nat->Addr),v=.slice Q L.length c/\L.length<=c /\
  (∀i,i<L.length->Q=some (a 0)/\a i=(a 0).add i) /\
  (∀i W,i<L.length->Ext w W->W.cell? (a i)=some (vi (d5 L i:Int))):=by
 have H:∀Q n c,v=.slice Q n c->n<=c:=by
  obtain⟨Q,c,rfl,o,_⟩:=h;intro A N C e;simp only[Value.slice.injEq]at e;omega
 obtain⟨Q,c,a,rfl,r,T⟩:=h.nats;exact⟨Q,c,a,rfl,H _ _ _ rfl,r,T⟩
theorem Addr.add_add'(a:Addr)(i j:Nat):(a.add i).add j=a.add (i+j):=by
 unfold Addr.add;by_cases J:i=0<;>by_cases h:j=0<;>simp[J,h,qb]
theorem c04(h:c8 w v l):Calls Tryz.prog 185 #[.agg #[v],vi a] w (RE w (.bool (sidB l a))):=by
 obtain⟨B,Z,F,C,H,E,Ha⟩:=m04 42 h;clear h;have hx:=C B E;cases S:j0 l a
 . have N:=zh (ji1 S);go_in;go_wp2_with fail;rw[<-Z.o];go_wp2_with(first|(go_at_call 180;refine cx (q6 _ _ _ _ (H _ E) (S)) E fun W E=>?_));exact zz9
 obtain⟨n,rfl,h1,r,Y⟩:=l7 S;have N:=zh (d01 S);have R:=zh Y;clear Y;go_in;go_wp2_with fail;rw[<-Z.o];go_wp2_with(first|(go_at_call 180;refine cx (q6 _ _ _ _ (H _ E) (S)) E fun W E=>?_)|(go_at_call 195;refine(J1 n r _).mono ?_;rintro e G⟨v1,rfl,j,z⟩;obtain⟨aL,T,d,rfl,hp,A,g⟩:=j.ints.natc;have hi:=j2 (c:=T) elI szI A));have he:=sh (E.trans z) C;have ha:=sh (E.trans z) H;have eW:=F.trans (E.trans z);have p:∀y∈j3 n,y<24:=fun y hy=>J5 hy;have hn:=D0 n;clear C H hx E z j S;generalize j3 n=L at g hi p hn N hp A|-;have O:=zh A;clear A;have E:=er G;have Ht:=zh (b57.start l L);go_loopw [20,5] (fun i s wr=>∃k u:Nat,k<=L.length/\u<2^24/\i=vi k/\s=vi u/\b57 l L k k u/\Ext G wr) (fun i _ _=>L.length-(intOf i).toNat);exact⟨0,0,om,om,rfl,rfl,Ht.o,E⟩;case round =>
  clear E Ht;obtain⟨k,u,V,I,rfl,rfl,m,E⟩:=hrel;have J:=zh m;clear m;by_cases U:k<L.length
  . have hf:=g k _ U E;obtain⟨M,hM⟩:=nq (L.length-k);have b:Hid (k+M=L.length):=zh om;have hj:L.length-k=M:=hM.symm;obtain⟨rfl,-⟩:=O.o k U;have ho:(d 0).add k=d k:=(O.o k U).2.symm;have hh:¬T=k:=om;have hA:=j2 (P:=Tryz.prog) (t:=40) (ao:=some (d k)) (n:=M) (c:=T-k) (adr:=fun t=>d (k+t)) elI szI (fun t ht=>⟨rfl,by
     have q:=b.o
     show d (k+t)=(d (k+0)).add t
     rw[(O.o (k+t) om).2,Nat.add_zero,(O.o k U).2,Addr.add_add']⟩)
    clear hM;go_wp2_with fail;clear hj ho hh;have hu:=p _ (m7 U);go_loopw [29,5] (fun i s wq=>∃t x:Nat,t<=M/\x<2^24/\i=vi t/\s=vi x/\b57 l L k (k+t) x/\Ext G wq) (fun i _ _=>M-(intOf i).toNat);exact⟨0,u,om,I,rfl,rfl,J.o,E⟩;case round =>
     clear E J I hf;obtain⟨t,x,ht,I,rfl,rfl,m,E⟩:=hrel;have J:=zh m;clear m;have hx:=he _ E;by_cases hv:t<M
     . have K:k+t<L.length:=(by have:=b.o;omega);have hz:=g (k+t) _ K E;have hw:=p _ (m7 K);obtain⟨s,S⟩:=nq (j9 l (d5 L k) (d5 L (k+t)));have hc:s<24:=(by rw[S];exact b14 R.o _ _);have D:=zh S;clear S;have hq:=o6 (n:=s) om;have hr:=H9 I hc;cases C:x.testBit s
       . have Q:=zh (J.o.next (Nat.le_add_right k t) K (by rw[<-D.o];exact C));go_wp2_with(first|(go_at_call 271;refine(O7 _ _ _ _ _ (ha _ E) R om om).mono ?_;rw[<-D.o];rintro e W⟨rfl,X⟩;replace E:=E.trans X;clear X)|(go_at_call 205;refine(T2 x s I om _ C).mono ?_;rintro e W⟨rfl,rfl⟩));go_roundw;exact⟨t+1,x ||| 2^s,om,ox I (oJ om hc),zg,rfl,by rw[D.o];exact Q.o,E⟩;exact zm1
       . have f:=zh (l03 (J.o.hit (Nat.le_add_right k t) K (by rw[<-D.o];exact C)));go_wp2_with(first|(go_at_call 271;refine(O7 _ _ _ _ _ (ha _ E) R om om).mono ?_;rw[<-D.o];rintro e W⟨rfl,X⟩;replace E:=E.trans X;clear X)|(go_at_call 205;refine(T2 x s I om _ C).mono ?_;rintro e W⟨rfl,rfl⟩));go_ret;exact⟨j1 (by rw[N.o,f.o]),eW.trans E⟩
     . have hm:k+t=L.length:=(by have:=b.o;omega);have Q:=zh (J.o.row hm);go_wp2_with fail;go_roundw;exact⟨k+1,x,om,I,zg,rfl,Q.o,E⟩;exact zm1
  . have hl:k=L.length:=om;subst hl;have f:=zh (l04 (J.o.all rfl));go_wp2_with fail;go_ret;exact⟨j1 (by rw[N.o,f.o]),eW.trans E⟩
theorem cr1(h:c8 w v l)(H:sidB l a=c):Calls Tryz.prog 185 #[.agg #[v],vi a] w (RE w (.bool c)):=by subst H;exact c04 v l a w h
def Col(l:LI)(L:LN)(i j k m:Nat):Prop:=¬(k=i/\m=j)/\j9 l (d5 L i) (d5 L j)=j9 l (d5 L k) (d5 L m)
theorem lw6{l:LI}(h:∀i j k m,i<L.length->i<=j->j<L.length->k<=i->k<=m->m<L.length->¬Col l L i j k m):Sid l L:=by
 intro p q R t o r T H e;rcases Nat.le_total R p with c|c
 have:=h p q R t om o r c T H;by_cases d:R=p/\t=q;exact⟨d.1.symm,d.2.symm⟩;exact absurd ⟨d,e⟩ this;have:=h R t p q om T H c o r;by_cases d:p=R/\q=t;exact d;exact absurd ⟨d,e.symm⟩ this
theorem lo1{l:LI}{m:Nat}(o:i<=j)(r:j<L.length)(T:k<=m)(H:m<L.length)(h:Col l L i j k m):¬Sid l L:=fun S=>by
 obtain⟨E,e⟩:=S i j k m o r T H h.2
 exact h.1 ⟨E.symm,e.symm⟩
theorem zz15{P:Prop}(h:P:=by go_wp2_with fail;refine wl E ?_;(repeat(go_big_quiet_step(first|(go_at_call 220;exact oa (G8 _ _ _ _ _ (g _ (c9 wr _)) (R) (om) (om))))));refine zd fun W E=>?_;go_wp2_with fail;go_roundw;exact⟨m+1,om,om,zg,fun M X r=>by by_cases e:M=m;(subst e;exact x.o);exact P.o M X om,N.trans E⟩;exact zm1):P:=h
theorem zz71{P:Prop}(h:P:=by clear p S q;go_wp2_with fail;refine wl E ?_;(repeat(go_big_quiet_step(first|(go_at_call 220;exact oa (G8 _ _ _ _ _ (g _ (c9 wr _)) (R) (om) (om))))));refine zd fun W E=>?_;go_wp2_with fail;go_ret;exact⟨j1 (by rw[<-Q.o,Y.o,t.o]),eW.trans (N.trans E)⟩):P:=h
theorem ch8(a:Nat)(w:World)(h:c8 w v l)(R:Hid (d7 l=true))(r:a<2^24):Calls Tryz.prog 230 #[.agg #[v],vi a] w (RE w (.bool (sidL l (j3 a)))):=by
 obtain⟨B,Z,F,C,H,E,He⟩:=m04 42 h;clear h;go_in;go_wp2_with fail;rw[<-Z.o];refine(L0 a r _).mono ?_;rintro e G⟨v1,rfl,hL,z⟩;obtain⟨aL,cL,aa,rfl,he,f⟩:=hL.ints.nats;have ho:=j2 (c:=cL) elI szI he;have hf:=sh z C;have hh:=sh z H;have eW:=F.trans z;have A:∀y∈j3 a,y<24:=fun y hy=>J5 hy;have hn:=D0 a;clear C H E z hL he;obtain⟨RR,Q⟩:∃RR,Hid (RR=sidL l (j3 a)):=⟨_,zh rfl⟩;have Y:=Q;generalize j3 a=L at f ho A hn Y|-;have E:=er G;go_wp2_with fail;go_loopw [6] (fun s wr=>∃i:Nat,i<=L.length/\s=vi i/\(∀I j k m,I<i->I<=j->j<L.length->k<=I->k<=m->m<L.length->¬Col l L I j k m)/\Ext G wr) (fun s _=>L.length-(intOf s).toNat);exact⟨0,om,rfl,om,E⟩
 clear E;obtain⟨i,J,rfl,n,E⟩:=hrel;have Hb:=zh n;clear n;by_cases U:i<L.length
 . go_wp2_with fail;go_loopw [7] (fun s wr=>∃j:Nat,i<=j/\j<=L.length/\s=vi j/\(∀D k m,i<=D->D<j->k<=i->k<=m->m<L.length->¬Col l L i D k m)/\Ext G wr) (fun s _=>L.length-(intOf s).toNat);exact⟨i,om,om,rfl,om,E⟩;case round =>
    clear E;obtain⟨j,hq,hj,rfl,n,E⟩:=hrel;have Ha:=zh n;clear n;by_cases ha:j<L.length
    . go_wp2_with fail;go_loopw [8] (fun s wr=>∃k:Nat,k<=i+1/\s=vi k/\(∀K m,K<k->K<=m->m<L.length->¬Col l L i j K m)/\Ext G wr) (fun s _=>i+1-(intOf s).toNat);exact⟨0,om,rfl,om,E⟩;case round =>
       clear E;obtain⟨k,V,rfl,n,E⟩:=hrel;have Hd:=zh n;clear n;by_cases hC:k<=i
       . go_wp2_with fail;go_loopw [9] (fun s wr=>∃m:Nat,k<=m/\m<=L.length/\s=vi m/\(∀M,k<=M->M<m->¬Col l L i j k M)/\Ext G wr) (fun s _=>L.length-(intOf s).toNat);exact⟨k,om,om,rfl,om,E⟩;case round =>
          clear E;obtain⟨m,hr,hm,rfl,n,E⟩:=hrel;have P:=zh n;clear n;by_cases hc:m<L.length
          . have hz:=fun u=>f i _ U (E.trans (c9 wr u));have hw:=fun u=>f j _ ha (E.trans (c9 wr u));have hl:k<L.length:=om;have ht:=fun u=>f k _ hl (E.trans (c9 wr u));have hv:=fun u=>f m _ hc (E.trans (c9 wr u));have hx:=fun u=>hf _ (E.trans (c9 wr u));have g:=sh E hh;have q1:=A _ (m7 U);have q2:=A _ (m7 ha);have q3:=A _ (m7 hl);have q4:=A _ (m7 hc);have N:=E;clear E;have E:=er wr;by_cases p:k=i/\m=j
            . have x:Hid (¬Col l L i j k m):=zh (fun c=>c.1 p);have O:((k:Int) != (i:Int))=false:=zso;have b2:((m:Int) != (j:Int))=false:=zso;clear p;exact zz15
            . by_cases S:j9 l (d5 L i) (d5 L j)=j9 l (d5 L k) (d5 L m)
              . have t:=zh (l03 (lo1 hq ha hr hc ⟨p,S⟩));have b3:((j9 l (d5 L i) (d5 L j):Int) == (j9 l (d5 L k) (d5 L m):Int))=true:=(by rw[S];simp);by_cases q:k=i
                . have O:((k:Int) != (i:Int))=false:=zso;have b2:((m:Int) != (j:Int))=true:=zso;exact zz71
                . have O:((k:Int) != (i:Int))=true:=zso;exact zz71
              . have x:Hid (¬Col l L i j k m):=zh (fun c=>S c.2);have b3:((j9 l (d5 L i) (d5 L j):Int) == (j9 l (d5 L k) (d5 L m):Int))=false:=zso;by_cases q:k=i
                . have O:((k:Int) != (i:Int))=false:=zso;have b2:((m:Int) != (j:Int))=true:=zso;clear p S q;exact zz15
                . have O:((k:Int) != (i:Int))=true:=zso;clear p S q;exact zz15
          . have hA:m=L.length:=om;go_wp2_with fail;go_roundw;exact⟨k+1,om,zg,fun K M X r T=>by by_cases e:K=k;(subst e;exact P.o M r om);exact Hd.o K M om r T,E⟩;exact zm1
       . go_wp2_with fail;go_roundw;exact⟨j+1,om,om,zg,fun D K M X r T b d=>by by_cases e:D=j;(subst e;exact Hd.o K M om b d);exact Ha.o D K M X om T b d,E⟩;exact zm1
    . go_wp2_with fail;go_roundw;exact⟨i+1,om,zg,fun I D K M X r T b d h6=>by by_cases e:I=i;(subst e;exact Ha.o D K M r om b d h6);exact Hb.o I D K M om r T b d h6,E⟩;exact zm1
 have hu:i=L.length:=om;have t:=zh (l04 (lw6 (l:=l) (L:=L) fun I D K M X=>Hb.o I D K M om));go_wp2_with fail;go_ret;exact⟨j1 (by rw[<-Q.o,Y.o,t.o]),eW.trans E⟩
theorem ck2(h:c8 w v l):Calls Tryz.prog 132 #[.agg #[v],vi a] w (RE w (.bool (sidB l a))):=by
 obtain⟨B,Z,F,C,H,E,s⟩:=m04 42 h;clear h;have b:=C B E;cases S:j0 l a
 . have N:=zh (ji1 S);go_in;go_wp2_with fail;rw[<-Z.o];go_wp2_with(first|(go_at_call 124;refine cx (m6 _ _ _ _ (H _ E) (S)) E fun e E=>?_));exact zz9
 obtain⟨n,rfl,U,r,Y⟩:=l7 S;have N:=zh (d01 S);have R:=zh Y;clear Y;go_in;go_wp2_with fail;rw[<-Z.o];go_wp2_with(first|(go_at_call 124;refine cx (m6 _ _ _ _ (H _ E) (S)) E fun e E=>?_)|(go_at_call 230;refine cx (ch8 _ _ _ _ (H _ E) R r) E fun e E=>?_));exact zz9
theorem ck3(h:c8 w v l)(H:sidB l a=c):Calls Tryz.prog 132 #[.agg #[v],vi a] w (RE w (.bool c)):=by subst H;exact ck2 v l a w h
def apT(l:LI)(L:LN)(i k j:Nat):Bool:=((j9 l (d5 L i) (d5 L k):Nat):Int) == ((j9 l (d5 L j) (d5 L j):Nat):Int)
def ZT(l:LI)(L:LN)(C:Nat->Nat->Nat->Prop)(n:Nat):Prop:=n=0↔∀i k j,C i k j->apT l L i k j=false
theorem ZT.congr{l:LI}{C C':Nat->Nat->Nat->Prop}(h:ZT l L C n)(e:∀i k j,C i k j↔C' i k j):ZT l L C' n :=
 h.trans ⟨fun H i k j c=>H i k j ((e i k j).2 c),fun H i k j c=>H i k j ((e i k j).1 c)⟩
theorem ZT.hit{l:LI}{C c:Nat->Nat->Nat->Prop}(t:apT l L i k j=true)(h:c i k j):ZT l L c (n+1) :=
 ⟨fun e=>om,fun H=>by have:=H i k j h;rw[t]at this;cases this⟩
theorem ZT.miss{l:LI}{C P:Nat->Nat->Nat->Prop}(h:ZT l L C n)(t:apT l L i k j=false)(e:∀a b c,P a b c↔C a b c\/(a=i/\b=k/\c=j)):ZT l L P n :=
 h.trans ⟨fun u a b c H=>by
  rcases (e a b c).1 H with h|⟨rfl,rfl,rfl⟩
  . exact u a b c h
  . exact t,fun u a b c H=>u a b c ((e a b c).2 (Or.inl H))⟩
def apL(l:LI)(L:LN):Bool:=(List.range L.length).all fun i=>(List.range L.length).all fun k=>(List.range L.length).all fun j=>decide (k<=i) || !apT l L i k j
theorem lh8{l:LI}:apL l L=true↔∀i k j,(i<k/\k<L.length/\j<L.length)->apT l L i k j=false:=by
 unfold apL;simp only[oC,ou];constructor;rintro H i k j⟨o,r,T⟩;have:=H i om k r j T;simpa[show ¬k<=i by omega]using this;intro H i o k r j T;by_cases V:k<=i;simp[V];rw[H i k j ⟨om,r,T⟩];simp
def apB(l:LI)(a:Int):Bool:=j0 l a&&apL l (j3 a.toNat)
theorem jp1{l:LI}{a:Int}(h:j0 l a=false):apB l a=false:=by unfold apB;rw[h];rfl
theorem jc1{l:LI}(h:j0 l n=true):apB l n=apL l (j3 n):=by unfold apB;rw[h];rfl
theorem ZT.all{l:LI}(h:ZT l L (fun i k j=>i<k/\k<L.length/\j<L.length) n):((n:Int) == 0)=apL l L:=by
 rw[oA,beq_iff_eq,lh8];exact⟨fun e=>h.1 om,fun H=>by have:=h.2 H;omega⟩
def ZN(b:Bool)(e:Ending):Prop:=∃n:Int,e=.returned (vi n)/\(n == 0)=b/\(n != 0) = !b
theorem ZN.mk{n:Int}{b:Bool}(h:(n == 0)=b):ZN b (.returned (vi n)):=⟨n,rfl,h,by rw[<-h];rfl⟩
theorem dm0(h:c8 w v l):Calls Tryz.prog 272 #[.agg #[v],vi a] w fun e Q=>ZN (apB l a) e/\Ext w Q:=by
 obtain⟨B,Z,F,d,H,E,Hb⟩:=m04 42 h;clear h;have hx:=d B E;cases S:j0 l a
 . have N:=zh (jp1 S);go_in;go_wp2_with fail;rw[<-Z.o];go_wp2_with(first|(go_at_call 180;refine cx (q6 _ _ _ _ (H _ E) (S)) E fun Q E=>?_));go_ret;exact⟨by rw[N.o];exact ZN.mk (by decide),F.trans E⟩
 obtain⟨n,rfl,h1,r,Y⟩:=l7 S;have N:=zh (jc1 S);have R:=zh Y;clear Y;go_in;go_wp2_with fail;rw[<-Z.o];go_wp2_with(first|(go_at_call 180;refine cx (q6 _ _ _ _ (H _ E) (S)) E fun Q E=>?_)|(go_at_call 195;refine(J1 n r _).mono ?_;rintro e G⟨v1,rfl,g,z⟩;obtain⟨aL,m,ab,rfl,hI,ha,he⟩:=g.ints.natc;have hD:=j2 (c:=m) elI szI ha));have hA:=sh (E.trans z) d;have hl:=sh (E.trans z) H;have eW:=F.trans (E.trans z);have A:∀y∈j3 n,y<24:=fun y hy=>J5 hy;have hC:=D0 n;have HI:=zh (fun W (D:Ext G W)=>(g.ext D).ints);clear d H hx E z g S;generalize j3 n=L at he hD A hC N hI ha HI|-;have HL:=zh he;clear ha he;have E:=er G;go_loopw [5,21] (fun V iv wr=>∃i s:Nat,i<=L.length/\iv=vi i/\V=vi s/\s<=576*i/\Hid (ZT l L (fun a b c=>a<i/\a<b/\b<L.length/\c<L.length) s)/\Ext G wr) (fun _ iv _=>L.length-(intOf iv).toNat);exact⟨0,0,om,rfl,rfl,om,zh ⟨fun _ a b c hc=>om,fun _=>rfl⟩,E⟩;case round =>
  clear E;obtain⟨i,s,J,rfl,rfl,K,T,E⟩:=hrel;by_cases U:i<L.length
  . have hk:=HL.o i _ U E;have hR:=A _ (m7 U);obtain⟨X,x⟩:=nq (d5 L i);rw[<-x]at hk hR;have HX:=zh x;clear x;have hm:=fun W=>T6 (P:=Tryz.prog) elI szI aL L.length m ((i:Int)+1) om om W;have ho:=fun W=>S6 (P:=Tryz.prog) elI szI aL L.length m ((i:Int)+1) om om W;rw[show((i:Int)+1).toNat=i+1 by omega]at hm ho;obtain⟨ac,c2,aa,hh,hS,hp,hr⟩:=((HI.o _ E).drop (k:=i+1) (by rw[d9];omega)).op;have hn:((b9 L).drop (i+1)).length=L.length-(i+1):=(by rw[pc,d9]);have hP:=j2 (c:=c2) elI szI hp;obtain⟨M,p⟩:=nq (((b9 L).drop (i+1)).length);rw[<-p]at hh hP hn;have HM:Hid (i+1+M=L.length):=zh om;have hT:M<=24:=om;have hc2:∀t W,t<M->Ext wr W->W.cell? (aa t)=some (vi (d5 L (i+1+t):Int)):=fun t W ht D=>by
     rw[hr t W (by rw[<-p];exact ht) D]
     simp[nth,List.getD,List.getElem?_drop,d5,b9]
     cases L[i+1+t]?<;>rfl
    rw[hh]at hm ho;have Ha:=zh hc2;clear hh hr hp hn p hS hc2;go_wp2_with fail;rename World=>wi;go_loopw [5,31] (fun V kv wr=>∃t s:Nat,t<=M/\kv=vi t/\V=vi s/\s<=576*i+24*t/\Hid (ZT l L (fun a b c=>(a<i/\a<b/\b<L.length/\c<L.length)\/(a=i/\i<b/\b<i+1+t/\c<L.length)) s)/\Ext G wr/\Ext wi wr) (fun _ kv _=>M-(intOf kv).toNat);exact⟨0,s,om,rfl,rfl,om,zh (T.o.congr fun a b c=>om),E,er _⟩;case round =>
     clear E hk K T;obtain⟨t,s,ht,rfl,rfl,K,T,E,I⟩:=hrel;by_cases hH:t<M
     . have hO:i+1+t<L.length:=(by have:=HM.o;omega);have hu:=Ha.o t _ hH I;have hN:=A _ (m7 hO);obtain⟨YY,q⟩:=nq (d5 L (i+1+t));rw[<-q]at hu hN;have HY:=zh q;clear q;go_wp2_with fail;go_loopw [5,37] (fun V jv wr=>∃j s:Nat,j<=L.length/\jv=vi j/\V=vi s/\s<=576*i+24*t+j/\Hid (ZT l L (fun a b c=>(a<i/\a<b/\b<L.length/\c<L.length)\/(a=i/\i<b/\b<i+1+t/\c<L.length)\/(a=i/\b=i+1+t/\c<j)) s)/\Ext G wr/\Ext wi wr) (fun _ jv _=>L.length-(intOf jv).toNat);exact⟨0,s,om,rfl,rfl,om,zh (T.o.congr fun a b c=>om),E,I⟩;case round =>
        clear E hu K T I;obtain⟨j,s,hj,rfl,rfl,K,T,E,I⟩:=hrel;by_cases hv:j<L.length
        . have hK:=HL.o j _ hv E;have hQ:=A _ (m7 hv);obtain⟨O,hZ⟩:=nq (d5 L j);rw[<-hZ]at hK hQ;have Hd:=zh hZ;clear hZ;rename World=>wj;have hU:=fun u=>hA _ (E.trans (c9 wj u));have cA:=fun u=>O7 v l X YY (Lat wj u) (hl _ (E.trans (c9 wj u))) R om om;have cB:=fun u=>O7 v l O O (Lat wj u) (hl _ (E.trans (c9 wj u))) R om om;have hw:=E;clear E;have E:=er wj;cases hq:(((j9 l X YY:Nat):Int) == ((j9 l O O:Nat):Int))
          . have Hp:Hid (apT l L i (i+1+t) j=false):=zh (by unfold apT;rw[<-HX.o,<-HY.o,<-Hd.o];exact hq);go_wp2_with fail;refine wl E ?_;(repeat(go_big_quiet_step(first|(go_at_call 271;first|with_reducible exact oa (cA _)|with_reducible exact oa (cB _)))));refine zd fun W E=>?_;go_wp2_with fail;go_roundw;exact⟨j+1,s,om,zg,rfl,om,zh (T.o.miss Hp.o fun a b c=>om),hw.trans E,I.trans E⟩;exact zm1
          . have Hp:Hid (apT l L i (i+1+t) j=true):=zh (by unfold apT;rw[<-HX.o,<-HY.o,<-Hd.o];exact hq);go_wp2_with fail;refine wl E ?_;(repeat(go_big_quiet_step(first|(go_at_call 271;first|with_reducible exact oa (cA _)|with_reducible exact oa (cB _)))));refine zd fun W E=>?_;go_wp2_with fail;go_roundw;exact⟨j+1,s+1,om,zg,zg,om,zh (ZT.hit (C:=fun _ _ _=>True) Hp.o om),hw.trans E,I.trans E⟩;exact zm1
        . have hJ:j=L.length:=om;have f:=zh (T.o.congr (C':=fun a b c=>(a<i/\a<b/\b<L.length/\c<L.length)\/(a=i/\i<b/\b<i+1+(t+1)/\c<L.length)) fun a b c=>om);have hf:s<=576*i+24*(t+1):=om;clear hJ;go_wp2_with fail;go_roundw;exact⟨t+1,s,om,zg,rfl,hf,f,E,I⟩;exact zm1
     . have f:Hid (ZT l L (fun a b c=>a<i+1/\a<b/\b<L.length/\c<L.length) s):=zh (T.o.congr fun a b c=>by have:=HM.o;omega);have hf:s<=576*(i+1):=om;go_wp2_with fail;go_roundw;exact⟨i+1,s,om,zg,rfl,hf,f,E⟩;exact zm1
  . have hG:i=L.length:=om;have Hz:Hid (((s:Int) == 0)=apL l L):=zh (ZT.all (T.o.congr fun a b c=>om));clear hG;go_wp2_with fail;go_ret;exact⟨by rw[N.o];exact ZN.mk Hz.o,eW.trans E⟩
theorem cd9(h:c8 w v l):Calls Tryz.prog 186 #[.agg #[v],vi a] w (RE w (.bool (apB l a))):=by
 obtain⟨B,Z,F,C,H,E,s⟩:=m04 42 h;clear h;have b:=C B E;have c:=dm0 v l a B (H _ E);go_in;go_wp2_with fail;rw[<-Z.o];refine c.mono ?_;rintro e G⟨⟨n,rfl,N,-⟩,z⟩;exact zz98
def fsK(P:Nat->Bool)(N f b fr k:Nat):Nat:=(E2 (bi3 P N b fr) k).foldl (fun (e x:Nat)=>if cnt e<cnt (fsS P N f (b ||| 2^x) (x+1))then fsS P N f (b ||| 2^x) (x+1)else e) b
theorem cg7(P:Nat->Bool)(N f b fr:Nat):fsK P N f b fr fr=b:=by
 unfold fsK;rw[cf8 fun i J=>by rw[b30];simp;intro _ h;omega];rfl
theorem db5(h:N<=24)(f b fr:Nat):fsS P N (f+1) b fr=fsK P N f b fr N:=by
 unfold fsK;rw[T5 h (dc0 P N b fr)];rfl
theorem dw5(h:P (b ||| 2^k)=false):fsK P N f b fr (k+1)=fsK P N f b fr k:=by
 unfold fsK;rw[H5,show(bi3 P N b fr).testBit k=false by rw[b30,h];simp];simp
theorem cw5(o:k<N)(r:fr<=k)(h:P (b ||| 2^k)=true)(q:cnt (fsK P N f b fr k)<cnt (fsS P N f (b ||| 2^k) (k+1))):fsK P N f b fr (k+1)=fsS P N f (b ||| 2^k) (k+1):=by
 unfold fsK at q|-;rw[H5,show(bi3 P N b fr).testBit k=true by rw[b30,h];simp[o,r],if_pos rfl,oH];simp only[oR,py];rw[if_pos q]
theorem cw4(o:k<N)(r:fr<=k)(h:P (b ||| 2^k)=true)(q:¬cnt (fsK P N f b fr k)<cnt (fsS P N f (b ||| 2^k) (k+1))):fsK P N f b fr (k+1)=fsK P N f b fr k:=by
 unfold fsK at q|-;rw[H5,show(bi3 P N b fr).testBit k=true by rw[b30,h];simp[o,r],if_pos rfl,oH];simp only[oR,py];rw[if_neg q]
theorem jt3(h:P 1=false):fsS P N (f+1) 0 0=fsS P N (f+1) 0 1:=by
 have e:bi3 P N 0 0=bi3 P N 0 1:=oK fun i=>by
  rw[b30,b30]
  by_cases J:i=0
  subst J;simp[h]
  simp[show 1<=i by omega]
 unfold fsS;rw[e]
def O8(l:LI)(b:Nat):Bool:=j0 l b&&decide (j7 l b b &&& b=0)
end Go.Zz
