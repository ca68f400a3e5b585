/- MonochromeSolution of the program. -/
import Derived.Test.YtnnbhcalddkmmaaGreatGr20
set_option linter.unusedSimpArgs false
set_option linter.unusedVariables false
set_option linter.unnecessarySimpa false
set_option maxHeartbeats 4000000
set_option maxRecDepth 20000
namespace Go.Zz
open Go.RowKit Go.Proofs
theorem jo0(c:List Int)(n:Nat)(hc:Hid (eqB c=true))(hn:n<=12)(bC bK bX bN bT bR:Nat)(aoC:Option Addr)(cC:Nat)(p1 p2:Value)(K:Nat)
 (St:Nat->World->Prop) (Fin:World->Prop) (stop:List Nat->Bool)
 (hS:∀k w,St k w->w.cell? ⟨bC,0,none⟩=some (.slice aoC c.length cC)∧w.cell? ⟨bK,0,none⟩=some (.func (.func 317) #[] #[p1,p2])∧w.cell? ⟨bX,0,none⟩=some (.slice (some ⟨bR,0,none⟩) c.length c.length)∧w.cell? ⟨bN,0,none⟩=some (.int .i64 n)∧w.cell? ⟨bT,0,none⟩=some (.func (.func 316) #[] #[.pointer (some ⟨bC,0,none⟩),.pointer (some ⟨bK,0,none⟩),.pointer (some ⟨bX,0,none⟩),.pointer (some ⟨bN,0,none⟩),.pointer (some ⟨bT,0,none⟩)])∧c9 w (.slice aoC c.length cC) c)
 (hset:∀k w i v,St k w->St k (w.setCell ⟨bR,i,none⟩ v)) (hext:∀k w W,St k w->Ext w W->St k W)
 (hTake:∀k w X,k<K->St k w->N9 bR c.length X w->X.length=c.length->(∀x∈X,1<=x∧x<=n)->Calls Tryz.prog 317 #[.slice (some ⟨bR,0,none⟩) c.length c.length,p1,p2] w fun e w'=>e=.returned (.bool (stop X))∧N9 bR c.length X w'∧(stop X=false->St (k+1) w')∧(stop X=true->Fin w')) :
 ∀r X k w,X.length+r=c.length->(∀x∈X,1<=x∧x<=n)->k+C5 c n [] r X<=K->St k w->N9 bR c.length X w ->
 Calls Tryz.prog 316 #[.int .i64 X.length,.int .i64 (T4 c X),.pointer (some ⟨bC,0,none⟩),.pointer (some ⟨bK,0,none⟩),.pointer (some ⟨bX,0,none⟩),.pointer (some ⟨bN,0,none⟩),.pointer (some ⟨bT,0,none⟩)] w fun e w' =>
  e=.returned (.bool (G7 stop c n r X))∧N9 bR c.length X w'∧(G7 stop c n r X=false->St (k+C5 c n [] r X) w')∧(G7 stop c n r X=true->Fin w'):=by
 have h4:=(T5 hc.out).2.1
 intro r
 induction r with
 | zero =>
  intro X k w hr hX hkK hst hrow
  obtain⟨k1,k2,k3,k4,k5,-⟩:=hS k w hst
  have hq:(((X.length:Nat):Int) == ((c.length:Nat):Int))=true:=by rw[beq_iff_eq];omega
  by_cases hd:T4 c X=0
  . have hA:Hid (G7 stop c n 0 X=stop X):=zh (by rw[b75,decide_eq_true hd,Bool.true_and])
    have hN:Hid (C5 c n [] 0 X=1):=zh (bv0 hd)
    have cT:=hTake k w X (by rw[hN.out] at hkK;omega) hst hrow om hX
    rw[hd]
    clear hd hTake
    go_in
    go_wp2_with (go_at_call 317;refine cT.mono ?_;rintro e w1 ⟨rfl,hR1,hF1,hG1⟩)
    go_ret
    exact⟨j5 hA.out.symm,hR1,by rw[hA.out,hN.out];exact hF1,by rw[hA.out];exact hG1⟩
  . have hA:Hid (G7 stop c n 0 X=false):=zh (by rw[b75,decide_eq_false hd,Bool.false_and])
    have hN:Hid (C5 c n [] 0 X=0):=zh (c74 hd)
    have hdq:(T4 c X == 0)=false:=by rw[beq_eq_false_iff_ne];exact hd
    clear hd hTake
    go_in
    go_wp2_with fail
    go_ret
    exact⟨j5 hA.out.symm,hrow,fun _=>by rw[hN.out];exact hst,fun e=>by rw[hA.out] at e;cases e⟩
 | succ r ih =>
  intro X k w hr hX hkK hst hrow
  have HkK:=zh hkK
  clear hkK
  have Hih:=zh ih
  clear ih hTake
  have hlt:X.length<c.length:=om
  obtain⟨k1,k2,k3,k4,k5,-⟩:=hS k w hst
  have hq:(((X.length:Nat):Int) == ((c.length:Nat):Int))=false:=by rw[beq_eq_false_iff_ne];omega
  have hX12:∀x∈X,x<=12:=fun x hx=>by have:=hX x hx;omega
  have hdb:=bv4 hc.out hX12 X.length (Nat.le_refl _)
  have hD4 : -432<=T4 c X∧T4 c X<=432:=by unfold T4;omega
  have Hsn:=zh (fun y=>cw5 c X y)
  obtain⟨D,hDd⟩:=nq (T4 c X)
  rw[<-hDd] at hD4 Hsn
  rw[<-hDd]
  have hY:=bq5 hc.out X.length
  obtain⟨Y,hYd⟩:=nq (nth c X.length)
  rw[<-hYd] at hY Hsn
  have HYd:=zh hYd
  clear hDd hYd hdb
  have hixR:∀W,(Instr.indexAt 26 (.slice (some ⟨bR,0,none⟩) c.length c.length) (.int .i64 ((X.length:Nat):Int))).run Tryz.prog W=.ok (.pointer (some ⟨bR,X.length,none⟩)) W:=fun W=>by
   rw[run_indexAt_slice (h:=elI),if_pos om,szI]
   exact zz71
  have HS:=zh hS
  have HR:=zh hrow
  have HT:=zh hst
  clear hS hrow hst
  go_in
  go_wp2_with fail
  clear k1 k2 k3 k4 k5
  go_loopw [10] (fun sq wr=>∃q:Nat,1<=q∧q<=n+1∧sq=.int .i64 q∧N9 bR c.length X wr∧St (k+N1 c n [] r X (q - 1)) wr∧Hid (∀j,j+1<q->G7 stop c n r (X++[j+1])=false)) (fun sq _=>n+1 - (intOf sq).toNat)
  case atStart=>exact⟨1,om,om,rfl,HR.out,HT.out,zh om⟩
  case round =>
   clear HR HT;rename World=>wr;obtain⟨q,hq1,hq2,rfl,hrow,hst,HN⟩:=hrel;obtain⟨k1,k2,k3,k4,k5,hI⟩:=HS.out _ _ hst;by_cases hle:q<=n
   . have hleI:(q:Int)<=(n:Int):=(by omega);obtain⟨vz,kz⟩:=hrow.has hlt;have hfz:=hrow.free X.length;have hrow1:=hrow.set hlt q;have hst1:=hset _ _ X.length (.int .i64 (q:Int)) hst;obtain⟨m1,m2,m3,m4,m5,hI1⟩:=HS.out _ _ hst1;obtain⟨w1,hw1⟩:∃w1,w1=wr.setCell ⟨bR,X.length,none⟩ (.int .i64 (q:Int)):=⟨_,rfl⟩;rw[<-hw1] at hrow1 hst1 m1 m2 m3 m4 m5 hI1;obtain⟨aoI,cI,adr,hvI,-,hadr,hcell⟩:=hI1.op;simp only[Value.slice.injEq] at hvI;obtain⟨rfl,-,rfl⟩:=hvI;have hixC:=j3 (c:=cC) elI szI hadr X.length;have hckC:=fun W (hW:Ext w1 W)=>hcell X.length W hlt hW;rw[<-HYd.out] at hckC;have hmb:=cm8 (a:=Y) (y:=q) om om om;have hcm:Y*(q:Int)=(q:Int)*Y:=Int.mul_comm _ _;rw[hcm] at hmb;have hwm:IntKind.i64.wrap ((q:Int)*Y)=(q:Int)*Y:=IntWalk.i64_in _ om;have hws:IntKind.i64.wrap (D+(q:Int)*Y)=D+(q:Int)*Y:=IntWalk.i64_in _ om;have hsn:T4 c (X++[q])=D+(q:Int)*Y:=(by rw[Hsn.out,hcm]);have hwl:IntKind.i64.wrap (((X.length:Nat):Int)+1)=((X.length:Nat):Int)+1:=IntWalk.i64_in _ om;have HKy:Hid (N1 c n [] r X q=N1 c n [] r X (q - 1)+C5 c n [] r (X++[q])):=zh (by
      have:=bv1 (c:=c) (n:=n) (cs:=[]) (r:=r) (X:=X) (k:=q - 1) rfl;rw[show q - 1+1=q by omega] at this;exact this)
     have HKq:k+N1 c n [] r X (q - 1)+C5 c n [] r (X++[q])<=K:=by
      exact zz163
     have cR:=fun W (hW:Ext w1 W)=>Hih.out (X++[q]) _ W (by rw[List.length_append,List.length_singleton];omega) (fun x hx=>by
      rw[List.mem_append,List.mem_singleton] at hx
      rcases hx with hx | rfl
      . exact hX x hx
      . exact⟨hq1,hle⟩) HKq (hext _ _ _ hst1 hW) (hrow1.ext hW)
     rw[hsn] at cR;rw[show (((X++[q]).length:Nat):Int)=((X.length:Nat):Int)+1 by rw[List.length_append,List.length_singleton];omega] at cR;obtain⟨S,hSd⟩:=nq (k+N1 c n [] r X (q - 1));rw[<-hSd] at cR;have HSd:=zh hSd;clear hSd hsn hcm hadr hcell hI hI1 hrow hst;have Hw1:=zh hw1;have hck1:=hckC w1 (er _);clear hw1 hckC;cases hAq:G7 stop c n r (X++[q])
     . exact zz29
     . exact zz38
   . exact zz63
theorem jr8(u:Value)(c:List Int)(n:Nat)(hc:Hid (eqB c=true))(hn:n<=12)(p1 p2:Value)(w:World)(hu:c9 w u c)
 (Inv:Nat->Nat->World->Prop) (Fin:World->Prop) (stop:List Nat->Bool)
 (hI0:∀hi W,Ext w W->w.heap.size<=hi->hi<=W.heap.size->Inv hi 0 W) (hIc:∀hi k W,Inv hi k W->c9 W u c) (hIx:∀hi k W W',Inv hi k W->Ext W W'->Inv hi k W')
 (hIs:∀hi k W b i v,w.heap.size<=b->b<hi->Inv hi k W->Inv hi k (W.setCell ⟨b,i,none⟩ v))
 (hTake:∀hi k W X vx,k<C5 c n [] c.length []->Inv hi k W->c9 W vx (b9 X)->X.length=c.length->(∀x∈X,1<=x∧x<=n)->Calls Tryz.prog 317 #[vx,p1,p2] W fun e W'=>e=.returned (.bool (stop X))∧(stop X=false->Inv hi (k+1) W')∧(stop X=true->Fin W')∧(∀b T cs,w.heap.size<=b->b<hi->Blk W b T cs->Blk W' b T cs)) :
 Calls Tryz.prog 254 #[u,.int .i64 n,.func (.func 317) #[] #[p1,p2]] w fun e W'=>e=.returned (.bool (G7 stop c n c.length []))∧(G7 stop c n c.length []=false->∃hi,Inv hi (C5 c n [] c.length []) W')∧(G7 stop c n c.length []=true->Fin W'):=by
 have h4:=T5 hc.out;have hmf:∀(fn:Fn) (first cap:Array Value) (w:World),(Instr.makeFunc fn first cap).run Tryz.prog w=.ok (.func fn first cap) w:=fun _ _ _ _=>rfl;obtain⟨aoC,cC,rfl,-⟩:=hu;obtain⟨w1,h1⟩:=nq (w.alloc (.cells #[.slice aoC c.length cC] 26));obtain⟨w2,h2⟩:=nq (w1.alloc (.cells #[.int .i64 n] 3));obtain⟨w3,h3⟩:=nq (w2.alloc (.cells #[.func (.func 317) #[] #[p1,p2]] 92));have s1:w1.heap.size=w.heap.size+1:=by rw[h1];simp
 have s2:w2.heap.size=w.heap.size+1+1:=by rw[h2];simp[s1]
 have s3:w3.heap.size=w.heap.size+1+1+1:=by rw[h3];simp[s2]
 have e01:Ext w w1:=by rw[h1];exact (er _).alloc _
 have e12:Ext w1 w2:=by rw[h2];exact (er _).alloc _
 have e23:Ext w2 w3:=by rw[h3];exact (er _).alloc _
 have B1:Blk w1 w.heap.size 26 #[.slice aoC c.length cC]:=by rw[h1];exact Blk.new _ _ _
 have B2:Blk w2 (w.heap.size+1) 3 #[.int .i64 n]:=by rw[h2,<-s1];exact Blk.new _ _ _
 have B3:Blk w3 (w.heap.size+1+1) 92 #[.func (.func 317) #[] #[p1,p2]]:=by rw[h3,<-s2];exact Blk.new _ _ _
 have HIc:=zh hIc;have HIx:=zh hIx;have HIs:=zh hIs;have HTk:=zh hTake;have HI0:=zh hI0;have H123:=zh (show ((w.alloc (.cells #[.slice aoC c.length cC] 26)).alloc (.cells #[.int .i64 n] 3)).alloc (.cells #[.func (.func 317) #[] #[p1,p2]] 92)=w3 by rw[<-h1,<-h2,<-h3]);clear hIc hIx hIs hTake hI0 h1 h2 h3;go_in;go_wp2_with (at_make;refine X5 slI rfl _ _ rfl _ _ c.length rfl rfl om (er _) ?_;intro w4 hO4 hE4;rw[H123.out] at hO4 hE4;have e34:=hE4;rw[H123.out]);obtain⟨w5,h5⟩:=nq (w4.alloc (.cells #[.slice (some ⟨w.heap.size+1+1+1,0,none⟩) c.length c.length] 26));obtain⟨w6,h6⟩:=nq (w5.alloc (.cells #[.func (.func 316) #[] #[.pointer (some ⟨w.heap.size,0,none⟩),.pointer (some ⟨w.heap.size+1+1,0,none⟩),.pointer (some ⟨w4.heap.size,0,none⟩),.pointer (some ⟨w.heap.size+1,0,none⟩),.pointer (some ⟨w4.heap.size+1,0,none⟩)]] 126));rw[<-h5,<-h6];rw[s3] at hO4;have s5:w5.heap.size=w4.heap.size+1:=by rw[h5];simp
 have s6:w6.heap.size=w4.heap.size+1+1:=by rw[h6];simp[s5]
 have e45:Ext w4 w5:=by rw[h5];exact (er _).alloc _
 have e56:Ext w5 w6:=by rw[h6];exact (er _).alloc _
 have B4:=dr3 hO4 zm om;have B5:Blk w5 w4.heap.size 26 #[.slice (some ⟨w.heap.size+1+1+1,0,none⟩) c.length c.length]:=by rw[h5];exact Blk.new _ _ _
 have B6:Blk w6 (w4.heap.size+1) 126 #[.func (.func 316) #[] #[.pointer (some ⟨w.heap.size,0,none⟩),.pointer (some ⟨w.heap.size+1+1,0,none⟩),.pointer (some ⟨w4.heap.size,0,none⟩),.pointer (some ⟨w.heap.size+1,0,none⟩),.pointer (some ⟨w4.heap.size+1,0,none⟩)]]:=by rw[h6,<-s5];exact Blk.new _ _ _
 have hR4:=B4.lt;have e46:=e45.trans e56;have e36:=e34.trans e46;have e06:=(e01.trans (e12.trans e23)).trans e36;have s4:=e34.size;clear h5 h6;have cT:=jo0 c n hc hn w.heap.size (w.heap.size+1+1) w4.heap.size (w.heap.size+1) (w4.heap.size+1) (w.heap.size+1+1+1) aoC cC p1 p2 (C5 c n [] c.length [])
  (fun k W=>Inv (w4.heap.size+2) k W∧Blk W w.heap.size 26 #[.slice aoC c.length cC]∧Blk W (w.heap.size+1) 3 #[.int .i64 n]∧Blk W (w.heap.size+1+1) 92 #[.func (.func 317) #[] #[p1,p2]]∧Blk W w4.heap.size 26 #[.slice (some ⟨w.heap.size+1+1+1,0,none⟩) c.length c.length]∧Blk W (w4.heap.size+1) 126 #[.func (.func 316) #[] #[.pointer (some ⟨w.heap.size,0,none⟩),.pointer (some ⟨w.heap.size+1+1,0,none⟩),.pointer (some ⟨w4.heap.size,0,none⟩),.pointer (some ⟨w.heap.size+1,0,none⟩),.pointer (some ⟨w4.heap.size+1,0,none⟩)]])
  Fin stop
  (fun k W ⟨i0,b1,b2,b3,b5,b6⟩=>⟨b1.cell (i:=0) rfl,b3.cell (i:=0) rfl,b5.cell (i:=0) rfl,b2.cell (i:=0) rfl,b6.cell (i:=0) rfl,HIc.out _ _ _ i0⟩)
  (fun k W i v ⟨i0,b1,b2,b3,b5,b6⟩=>⟨HIs.out _ _ _ _ _ _ om om i0,b1.other (by simp;omega) _,b2.other zm _,b3.other zm _,b5.other (by simp;omega) _,b6.other (by simp;omega) _⟩)
  (fun k W W' ⟨i0,b1,b2,b3,b5,b6⟩ hE=>⟨HIx.out _ _ _ _ i0 hE,b1.ext hE,b2.ext hE,b3.ext hE,b5.ext hE,b6.ext hE⟩)
  (fun k W X hkK ⟨i0,b1,b2,b3,b5,b6⟩ hrow hX hX2=>(HTk.out _ _ _ X _ hkK i0 (hrow.ints hX om) hX hX2).mono fun e W' ⟨r1,r2,r3,r4⟩=>⟨r1,by obtain⟨Z,z1,z2,z3⟩:=hrow;exact⟨Z,z1,z2,r4 _ _ _ om om z3⟩,fun hs=>⟨r2 hs,r4 _ _ _ om om b1,r4 _ _ _ om om b2,r4 _ _ _ om om b3,r4 _ _ _ om om b5,r4 _ _ _ om om b6⟩,r3⟩)
  c.length [] 0 w6 zm zm om
  ⟨HI0.out _ _ e06 om om,B1.ext ((e12.trans e23).trans e36),B2.ext (e23.trans e36),B3.ext e36,B5.ext e56,B6⟩ ((ch9 B4).ext e46)
 exact zz102
theorem j61(vx vs:Value)(X:List Nat)(cs:List Int)(bS bO:Nat)(w:World)(ao0:Option Addr)(n0 c0:Nat)(hI:c9 w vx (b9 X))(hC:c9 w vs cs)(hS:∀W,Ext w W->W.cell? ⟨bS,0,none⟩=some vs)(hB:Blk w bO 26 #[.slice ao0 n0 c0])(hX:∀x∈X,1<=x∧x<=cs.length)(h12:cs.length<=12)(hXl:X.length<=4) :
 Calls Tryz.prog 317 #[vx,.pointer (some ⟨bS,0,none⟩),.pointer (some ⟨bO,0,none⟩)] w fun e w'=>e=.returned (.bool (X6 cs X))∧(X6 cs X=false->Ext w w')∧(X6 cs X=true->Fr bO none w w'∧∃ao n c,Blk w' bO 26 #[.slice ao n c]):=by
 have HI:=zh (fun W (hW:Ext w W)=>hI.ext hW);obtain⟨aoX,cX,adrX,rfl,hadrX,hcellX⟩:=hI.nats;have hixX:=j3 (c:=cX) elI szI hadrX;obtain⟨aoS,cS,adrS,rfl,-,hadrS,hcellS⟩:=hC.op;have hixS:=j3 (c:=cS) elI szI hadrS;have HX:=zh hcellX;have HSc:=zh hcellS;have HB:=zh hB;have HS:=zh hS;have hE:=er w;clear hadrX hadrS hcellX hcellS hI hC hB hS;go_in;go_wp2_with fail;go_loopw [9] (fun si wr=>∃k:Nat,k<=X.length∧si=.int .i64 k∧Ext w wr∧Hid (bk1 cs X k)) (fun si _=>X.length - (intOf si).toNat);case atStart=>exact⟨0,om,rfl,hE,zh fun j hj=>absurd hj om⟩
 case round =>
  clear hE;rename World=>wr;obtain⟨k,hk,rfl,hE,HT⟩:=hrel;by_cases hlt:k<X.length
  . have hy:=hX _ (o6 hlt);have hz:=hX _ (o6 (L:=X) (k:=0) om);have h0l:0<X.length:=om;have hck:=HX.out k wr hlt hE;have hckU:=fun U=>HX.out k (Lat wr U) hlt (hE.trans (d5 wr U));have hc0U:=fun U=>HX.out 0 (Lat wr U) h0l (hE.trans (d5 wr U));have hix0:∀W,(Instr.indexAt 26 (.slice aoX X.length cX) (.int .i64 0)).run Tryz.prog W=.ok (.pointer (some (adrX 0))) W:=fun W=>hixX 0 W om;obtain⟨p,hp⟩:∃p,d8 X k=p+1:=⟨d8 X k - 1,om⟩;obtain⟨z,hzz⟩:∃z,d8 X 0=z+1:=⟨d8 X 0 - 1,om⟩;have hpl:p<cs.length:=om;have hzl:z<cs.length:=om;have hcpU:=fun U=>HSc.out p (Lat wr U) hpl (hE.trans (d5 wr U));have hczU:=fun U=>HSc.out z (Lat wr U) hzl (hE.trans (d5 wr U));have hsU:=fun U=>HS.out (Lat wr U) (hE.trans (d5 wr U));rw[hp] at hck hckU;rw[hzz] at hc0U;have hwp:IntKind.i64.wrap (((p+1:Nat):Int) - 1)=(p:Int):=(by rw[show (((p+1:Nat):Int) - 1)=(p:Int) by omega];exact IntWalk.i64_in _ om);have hwz:IntKind.i64.wrap (((z+1:Nat):Int) - 1)=(z:Int):=(by rw[show (((z+1:Nat):Int) - 1)=(z:Int) by omega];exact IntWalk.i64_in _ om);have Hst:Hid (∀j,j<k+1->nth cs p=nth cs z->bk1 cs X (k+1)):=zh fun _ _ e j hj=>by
     by_cases e2:j=k
     . subst e2;rw[hp,hzz];exact e
     . exact HT.out j om
    have Hno:Hid (nth cs p≠nth cs z->X6 cs X=false):=zh fun e=>df7 hlt (by rw[hp,hzz];exact e);obtain⟨P,hPd⟩:=nq (nth cs p);obtain⟨Z,hZd⟩:=nq (nth cs z);rw[<-hPd] at hcpU Hst Hno;rw[<-hZd] at hczU Hst Hno;have hixp:=hixS p;have hixz:=hixS z;have hE1:=hE;clear hE hPd hZd hp hzz hy hz hixS;have hE:=er wr;by_cases e:P=Z
    . have Hn:Hid (bk1 cs X (k+1)):=zh (Hst.out k om e);have hq:(P != Z)=false:=(by rw[e];simp);clear e;go_wp2_with fail;(refine wl hE ?_);(repeat (go_big_quiet_step (first | (fail "no call"))));(refine zd ?_);(clear hE);(intro W hE);go_wp2_with fail;go_roundw;(case rel=>exact⟨k+1,om,zg,hE1.trans hE,Hn⟩);case measure=>exact zm1
    . have Hn:Hid (X6 cs X=false):=zh (Hno.out e);have hq:(P != Z)=true:=(by rw[bne_iff_ne];exact e);clear e;go_wp2_with fail;(refine wl hE ?_);(repeat (go_big_quiet_step (first | (fail "no call"))));(refine zd ?_);(clear hE);(intro W hE);go_wp2_with fail;go_ret;exact⟨j5 Hn.out.symm,fun _=>hE1.trans hE,fun h=>by rw[Hn.out] at h;cases h⟩
  . have hkl:k=X.length:=(by omega);have Hs:Hid (X6 cs X=true):=zh (c58 (by rw[<-hkl];exact HT.out));have cC:=F8 _ _ wr (HI.out wr hE);clear hkl;go_wp2_with (go_at_call 212;refine cC.mono ?_;rintro e w1 ⟨v1,rfl,hO1,hE1⟩;have hB1:=HB.out.ext (hE.trans hE1);have hc1:=hB1.cell (i:=0) (v:=.slice ao0 n0 c0) rfl;have hf1:=hB1.free 0;obtain⟨a1,k1,rfl,-⟩:=hO1.shape);have hB2:Blk (w1.setCell ⟨bO,0,none⟩ (.slice a1 (b9 X).length k1)) bO 26 #[.slice a1 (b9 X).length k1]:=hB1.set 0 _;have hF:=((hE.trans hE1).fr bO none).trans (Nw.refl _ _) (b96 bO none w1 0 (.slice a1 (b9 X).length k1));go_wp2_with fail;go_ret;exact⟨j5 Hs.out.symm,fun h=>(by rw[Hs.out] at h;cases h),fun _=>⟨hF,_,_,_,hB2⟩⟩
theorem bo6(u vs:Value)(c cs:List Int)(w:World)(hu:c9 w u c)(hv:c9 w vs cs)(he:eqB c=true)(h1:1<=cs.length)(h12:cs.length<=12) :
 Calls Tryz.prog 256 #[u,vs] w fun e w'=>∃v',e=.returned (.tuple #[v',.bool (J5 c cs)])∧Ext w w':=by
 have cE:=fun W (hW:Ext w W)=>b01 u c W (hu.ext hW);rw[he] at cE;have hin:inB (cs.length:Int) 1 12=true:=Z9.2 om;have cW:=fun W=>P1 (cs.length:Int) 1 12 W;rw[hin] at cW;have hmf:∀(fn:Fn) (first cap:Array Value) (w:World),(Instr.makeFunc fn first cap).run Tryz.prog w=.ok (.func fn first cap) w:=fun _ _ _ _=>rfl;have HU:=zh hu;have HV:=zh hv;have He:=zh he;obtain⟨aoS,cS,rfl,-⟩:=hv;obtain⟨w0,h0⟩:=nq (w.alloc (.cells #[.slice aoS cs.length cS] 26));obtain⟨w1,h1'⟩:∃x,x=w0.alloc (.cells #[] 3):=⟨_,rfl⟩;obtain⟨w2,h2⟩:=nq (w1.alloc (.cells #[.slice (some ⟨w.heap.size+1,0,none⟩) 0 0] 26));have s0:w0.heap.size=w.heap.size+1:=by rw[h0];simp
 have s1:w1.heap.size=w.heap.size+1+1:=by rw[h1'];simp[s0]
 have s2:w2.heap.size=w.heap.size+1+1+1:=by rw[h2];simp[s1]
 have e00:Ext w w0:=by rw[h0];exact (er _).alloc _
 have e01:Ext w0 w1:=by rw[h1'];exact (er _).alloc _
 have e12:Ext w1 w2:=by rw[h2];exact (er _).alloc _
 have B0:Blk w0 w.heap.size 26 #[.slice aoS cs.length cS]:=by rw[h0];exact Blk.new _ _ _
 have B2:Blk w2 (w.heap.size+1+1) 26 #[.slice (some ⟨w.heap.size+1,0,none⟩) 0 0]:=by rw[h2,<-s1];exact Blk.new _ _ _
 have e02:=e01.trans e12;have H12:=zh (show ((w.alloc (.cells #[.slice aoS cs.length cS] 26)).alloc (.cells #[] 3)).alloc (.cells #[.slice (some ⟨w.heap.size+1,0,none⟩) 0 0] 26)=w2 by rw[<-h0,<-h1',<-h2]);have kS:∀W,Ext w0 W->W.cell? ⟨w.heap.size,0,none⟩=some (.slice aoS cs.length cS):=fun W hW=>(B0.ext hW).cell (i:=0) rfl;clear h0 h1' h2 hu he hin;go_in;go_wp2_with fail;rw[H12.out];refine (cE _ (e00.trans e02)).mono ?_;rintro e w3 ⟨rfl,hE3⟩;have e03:=e02.trans hE3;have ks3:=kS _ e03;go_wp2_with (refine (cW _).mono ?_;rintro e w' ⟨rfl,rfl⟩);have s3:=hE3.size;have cF:=jr8 u c cs.length He h12 (.pointer (some ⟨w.heap.size,0,none⟩)) (.pointer (some ⟨w.heap.size+1+1,0,none⟩)) w3 (HU.out.ext (e00.trans e03))
  (fun hi k W=>Ext w0 W∧(∃ao n c,Blk W (w.heap.size+1+1) 26 #[.slice ao n c])∧hi<=W.heap.size)
  (fun W=>Ext w0 W∧∃ao n c,Blk W (w.heap.size+1+1) 26 #[.slice ao n c]) (X6 cs)
  (fun hi W hE h1 h2=>⟨e03.trans hE,⟨_,_,_,(B2.ext hE3).ext hE⟩,h2⟩)
  (fun hi k W ⟨h1,_,_⟩=>HU.out.ext (e00.trans h1))
  (fun hi k W W' ⟨h1,⟨ao,n,c,h2⟩,h5⟩ hE=>⟨h1.trans hE,⟨ao,n,c,h2.ext hE⟩,nle h5 hE.size⟩)
  (fun hi k W b i v hb1 hb2 ⟨h1,⟨ao,n,c,h2⟩,h5⟩=>⟨h1.setCell (by show w0.heap.size<=b;omega) _,⟨ao,n,c,h2.other (by show w.heap.size+1+1≠b;omega) _⟩,by simpa using h5⟩)
  (fun hi k W X vx hkK ⟨h1,⟨ao,n,c,h2⟩,h5⟩ hI hX hX2=>(j61 vx _ X cs w.heap.size (w.heap.size+1+1) W ao n c hI (HV.out.ext (e00.trans h1)) (fun W' hW'=>kS W' (h1.trans hW')) h2 hX2 h12 (by rw[hX];exact (T5 He.out).2.1)).mono fun e W' ⟨r1,r2,r3⟩=>
   ⟨r1,fun h=>⟨h1.trans (r2 h),⟨ao,n,c,h2.ext (r2 h)⟩,nle h5 (r2 h).size⟩,fun h=>⟨(r3 h).1.ext h1 om (fun g hg=>by cases hg),(r3 h).2⟩,fun b T cs' hb1 hb2 hB=>by
    cases hs:X6 cs X
    . exact hB.ext (r2 hs)
    . exact (r3 hs).1.blk hB om zm⟩)
 have Hm:Hid (G7 (X6 cs) c cs.length c.length []=J5 c cs):=zh rfl;rw[Hm.out] at cF;obtain⟨R,hR⟩:=nq (J5 c cs);rw[<-hR] at cF;refine cF.mono ?_;rintro e w4 ⟨rfl,hF,hG⟩;have hfin:Ext w0 w4∧∃ao n c,Blk w4 (w.heap.size+1+1) 26 #[.slice ao n c]:=by
  cases R
  . obtain⟨hi,h1,h2,-⟩:=hF rfl;exact⟨h1,h2⟩
  . exact hG rfl
 obtain⟨h1,ao,n,k,h2⟩:=hfin;have k4:=h2.cell (i:=0) (v:=.slice ao n k) rfl;have k4U:=fun U=>cr2 k4 _ (d5 w4 U);have hE:=er w4;clear cF hF hG;go_wp2_with fail;exact bodyPost_ret (v:=.tuple #[.slice ao n k,.bool (J5 c cs)]) (by simp[results,Tryz.results256,go_sem]) rfl ⟨.slice ao n k,rfl,e00.trans h1⟩
theorem jj3{a n:Nat}(ha:a<2 ^ 24){b:Bool}(hb:a.testBit n=b):W1 ((shr a n:Nat):Int) 1=if b then 1 else 0:=by
 have h1:=bt0 a n;rw[Q6 om];have:a.testBit n=decide (shr a n % 2=1):=by rw[Nat.testBit_eq_decide_div_mod_eq,<-Nat.shiftRight_eq_div_pow];rfl
 rw[hb] at this;cases b
 . have h2:=of_decide_eq_false this.symm;have:shr a n % 2=0:=om;rw[this];rfl
 . have h2:=of_decide_eq_true this.symm;rw[h2];rfl
def flI(n m i:Nat):List Int:=(List.range n).map (fun j=>if j<i then ((m.testBit j).toNat:Int) else 0)
theorem b45(n m i:Nat):(flI n m i).length=n:=by simp[flI]
theorem c81{n m i j:Nat}(h:j<n):nth (flI n m i) j=if j<i then ((m.testBit j).toNat:Int) else 0:=by simp[flI,nth,List.getD,h]
theorem ja3(n m:Nat):flI n m 0=List.replicate n 0:=by
 refine c80 (by simp[b45]) fun j hj=>?_;rw[b45] at hj;rw[c81 hj,cz7];rfl
theorem jk7(n m:Nat):flI n m n=X9 n m:=by
 refine c80 (by rw[b45,bl3]) fun j hj=>?_;rw[b45] at hj;rw[c81 hj,if_pos hj];simp[X9,nth,List.getD,hj]
theorem jk8{n m i:Nat}(h:i<n):(flI n m i).set i ((m.testBit i).toNat:Int)=flI n m (i+1):=by
 refine c80 (by simp[b45]) fun j hj=>?_;rw[List.length_set,b45] at hj;rw[c81 hj];have e:nth ((flI n m i).set i ((m.testBit i).toNat:Int)) j=if j=i then ((m.testBit i).toNat:Int) else nth (flI n m i) j:=by
  unfold nth;simp only[List.getD_eq_getElem?_getD,List.getElem?_set];by_cases q:j=i
  . subst q;simp[b45,h]
  . have q':¬i=j:=fun e=>q e.symm;simp[q,q']
 rw[e];by_cases q:j=i
 . subst q;simp
 . rw[if_neg q,c81 hj];by_cases q2:j<i
   . rw[if_pos q2,if_pos om]
   . rw[if_neg q2,if_neg om]
theorem zz51{P:Prop}(h:P:=by go_in;go_wp2_with fail;refine (cE _ (er _)).mono ?_;rintro e w1 ⟨rfl,hE1⟩;go_wp2_with fail;go_ret;exact⟨o7 Hr.out.symm,hE1⟩):P:=h
theorem zz143{P:Prop}(h:P:=by have h9I:¬(n:Int)<=9:=(by omega);have Hr:=zh (de8 He.out H3.out fun j hj=>HN.out j om);go_wp2_with fail;go_ret;exact⟨o7 Hr.out.symm,hE⟩):P:=h
theorem cq6(u:Value)(c:List Int)(w:World)(hu:c9 w u c) :
 Calls Tryz.prog 153 #[u,.int .i64 2] w fun e w'=>e=.returned (.int .i64 (W9 c))∧Ext w w':=by
 have cE:=fun W (hW:Ext w W)=>b01 u c W (hu.ext hW);have HU:=zh hu;obtain⟨ao,co,rfl,-⟩:=hu;cases he:eqB c
 . have Hr:=zh (co0 (c:=c) (Or.inl he));rw[he] at cE;exact zz51
 . rw[he] at cE;have h24:=T5 he;by_cases h3:c.length<=3;rotate_left
   . have Hr:=zh (co0 (c:=c) (Or.inr h3));have hq:((c.length:Int) == 4)=true:=(by rw[beq_iff_eq];omega);exact zz51
   . have hq:((c.length:Int) == 4)=false:=(by rw[beq_eq_false_iff_ne];omega);have hin:inB (2:Int) 1 2=true:=(by decide);have cW:=fun W=>P1 (2:Int) 1 2 W;rw[hin] at cW;have He:=zh he;have H3:=zh h3;have cM:=fun (n m:Nat) (h1:1<=n) (h9:n<=9) (vl:Value) (W:World) (hW:Ext w W) (hv:c9 W vl (X9 n m))=>bo6 (.slice ao c.length co) vl c (X9 n m) W (HU.out.ext hW) hv He.out (by rw[bl3];exact h1) (by rw[bl3];omega);clear he h24 h3;go_in;go_wp2_with fail;refine (cE _ (er _)).mono ?_;rintro e w1 ⟨rfl,hE1⟩;go_wp2_with (refine (cW _).mono ?_;rintro e w' ⟨rfl,rfl⟩);clear cE cW hin hq;go_loopw [5] (fun sn wr=>∃n:Nat,1<=n∧n<=10∧sn=.int .i64 n∧Ext w wr∧Hid (∀j,j+1<n->b89 c (j+1)=false)) (fun sn _=>10 - (intOf sn).toNat);(case atStart=>exact⟨1,om,om,rfl,hE1,zh fun j hj=>absurd hj om⟩);case round =>
      clear hE1;rename World=>wr;obtain⟨n,hn1,hn2,rfl,hE,HN⟩:=hrel;by_cases h9:n<=9
      . have h9I:(n:Int)<=9:=(by omega);have hp9:pw n<=512:=by
         have:pw n<=2 ^ 9:=Nat.pow_le_pow_right om h9;omega
        have hsh:=p6 (n:=n) om;go_wp2_with fail;go_loopw [6,7] (fun sa sm wq=>∃(b:Bool) (m:Nat),m<=pw n∧sa=.bool b∧sm=.int .i64 m∧Ext w wq∧Hid ((b=true->∀j,j<m->J5 c (X9 n j)=true)∧(b=false->∃j,j<pw n∧J5 c (X9 n j)=false))) (fun _ sm _=>pw n - (intOf sm).toNat);(case atStart=>exact⟨true,0,om,rfl,rfl,hE,zh ⟨fun _ j hj=>absurd hj om,fun h=>by cases h⟩⟩);case round =>
         clear hE;rename World=>wq;obtain⟨b,m,hm,rfl,rfl,hE,HB⟩:=hrel;cases b
         . obtain⟨j,hj1,hj2⟩:=HB.out.2 rfl;have Hf:=zh (dm7 hj1 hj2);clear hj1 hj2 HB;go_wp2_with fail;go_roundw;(case rel=>exact⟨n+1,om,om,zg,hE,zh fun i hi=>by by_cases q:i+1=n;(rw[q];exact Hf.out);exact HN.out i om⟩);case measure=>exact zm1
         . by_cases hmp:m<pw n
           . have hmI:(m:Int)<((pw n:Nat):Int):=(by omega);have HB1:=zh (HB.out.1 rfl);clear HB;go_wp2_with (at_make;refine X5 slI rfl _ _ rfl w _ n rfl rfl om hE ?_;intro w2 hO hE2);obtain⟨g,hgd⟩:=nq (wq.heap.size);rw[<-hgd] at hO ⊢;clear hgd;rw[<-ja3 n m] at hO;have hixO:=W4 g n n;clear hE;go_loopw [9,40] (fun s9 s40 wz=>∃i:Nat,i<=n∧s40=.int .i64 i∧Own 3 w wz (.slice (some ⟨g,0,none⟩) n n) (flI n m i)∧Ext w wz) (fun _ s40 _=>n - (intOf s40).toNat);(case atStart=>exact⟨0,om,rfl,hO,hE2⟩);case round =>
              clear hO hE2;rename World=>wz;obtain⟨i,hi,rfl,hO,hE⟩:=hrel;by_cases hin:i<n
              . have hinI:(i:Int)<(n:Int):=(by omega);obtain⟨hc1,hf1⟩:=hO.cellAt (b45 n m i) hin;have hq1:=K0 (a:=m) (n:=i) om;have hq2:W1 ((shr m i:Nat):Int) 1=((m.testBit i).toNat:Int):=by
                 rw[jj3 (b:=m.testBit i) om rfl];cases m.testBit i<;>rfl
                obtain⟨hO1,-⟩:=hO.stored_grown (b45 n m i) i ((m.testBit i).toNat:Int);rw[jk8 hin] at hO1;have hgb:=(hO.blk g rfl).1;have hE1:=hE.setCell (p:=⟨g,i,none⟩) hgb (.int .i64 ((m.testBit i).toNat:Int));obtain⟨bt,hbt⟩:∃x:Int,x=((m.testBit i).toNat:Int):=⟨_,rfl⟩;rw[<-hbt] at hq2 hO1 hE1;have hixi:=hixO i;clear hbt;go_wp2_with fail;go_roundw;(case rel=>exact⟨i+1,om,zg,hO1,hE1⟩);case measure=>exact zm1
              . have hin2:i=n:=(by omega);subst hin2;rw[jk7] at hO;go_wp2_with (go_at_call 256;refine (cM i m hn1 h9 _ _ hE hO.ints).mono ?_;rintro e w5 ⟨v5,rfl,hE5⟩);go_roundw;(case rel=>exact⟨J5 c (X9 i m),m+1,om,rfl,zg,hE.trans hE5,zh ⟨fun hb j hj=>by by_cases q:j=m;(rw[q];exact hb);exact HB1.out j om,fun hb=>⟨m,hmp,hb⟩⟩⟩);case measure=>exact zm1
           . have hmI:¬(m:Int)<((pw n:Nat):Int):=(by omega);have Ha:=zh (j86 (c:=c) (n:=n) fun j hj=>HB.out.1 rfl j om);have Hr:Hid (W9 c=(n:Int)):=zh (by
              have:=j47 He.out H3.out (n:=n - 1) om (fun j hj=>HN.out j om) (by rw[show n - 1+1=n by omega];exact Ha.out);rw[this];omega)
             go_wp2_with fail;go_ret;exact⟨o7 Hr.out.symm,hE⟩
      . exact zz143
theorem zz87{P:Prop}(h:P:=by go_wp2_with fail;rw[Hz.out.1,Hz.out.2];exact bodyPost_ret (v:=.tuple #[.slice (some ⟨wr.heap.size,0,none⟩) 0 0,.bool false]) (by simp[results,Tryz.results156,go_sem]) rfl ⟨_,rfl,m7 (TI:=3) (n:=0) om hE [] rfl,Ext.alloc hE _⟩):P:=h
theorem ci5(u:Value)(c:List Int)(w:World)(hu:c9 w u c) :
 Calls Tryz.prog 156 #[u] w fun e w'=>∃v',e=.returned (.tuple #[v',.bool (zcB c)])∧Own 3 w w' v' (b9 (zcL c))∧Ext w w':=by
 have cE:=fun W (hW:Ext w W)=>b58 u c W (hu.ext hW);obtain⟨ao,cc,adr,rfl,hlen,hadr,hcell⟩:=hu.op;have hix:=j3 (c:=cc) elI szI hadr;have Hcell:=zh hcell;clear hadr hu hcell;have hE:=er w;cases he:eqB c
 . have Hz:=zh (ji3 he);rw[he] at cE;have HW:∀(wr:World),wr=w->True:=fun _ _=>trivial;go_in;go_wp2_with fail;go_loopw [4] (fun sm wr=>sm=.int .i64 1∧Ext w wr) (fun _ _=>0);(case atStart=>exact⟨rfl,hE⟩);case round =>
    clear hE;rename World=>wr;obtain⟨rfl,hE⟩:=hrel;by_cases hlt:(1:Int)<db6 1 (c.length:Int)
    . go_wp2_with (refine (cE _ hE).mono ?_;rintro e w2 ⟨rfl,hE2⟩);have hEf:=hE.trans hE2;rw[Hz.out.1,Hz.out.2];exact bodyPost_ret (v:=.tuple #[.slice (some ⟨w2.heap.size,0,none⟩) 0 0,.bool false]) (by simp[results,Tryz.results156,go_sem]) rfl ⟨_,rfl,m7 (TI:=3) (n:=0) om hEf [] rfl,Ext.alloc hEf _⟩
    . exact zz87
 have hcl:=T5 he;have h4:c.length<=4:=hcl.2.1;have hpw4:pw c.length<=16:=Nat.pow_le_pow_right (n:=2) om h4;have hpw1:=T3 c.length;have hs1:=p6 (n:=c.length) om;have He:=zh he;rw[he] at cE;clear he hcl;go_in;go_wp2_with fail;go_loopw [4] (fun sm wr=>∃m:Nat,1<=m∧m<=pw c.length∧sm=.int .i64 m∧Hid (∀j,1<=j->j<m->¬K6 (O8 c j)=0)∧Ext w wr) (fun sm _=>pw c.length - (intOf sm).toNat);case atStart=>exact⟨1,om,om,rfl,zh om,hE⟩
 case round =>
  clear hE;rename World=>wr;obtain⟨m,hm1,hm2,rfl,H,hE⟩:=hrel;by_cases hlt:m<pw c.length
  . have hltI:(m:Int)<(pw c.length:Int):=(by omega);have hm24:m<2 ^ 24:=om;go_wp2_with (refine (cE _ hE).mono ?_;rintro e w2 ⟨rfl,hE2⟩);have hE02:=hE.trans hE2;clear cE;go_loopw [5,6] (fun ss sk wq=>∃k:Nat,k<=c.length∧sk=.int .i64 k∧ss=.int .i64 (K6 (G8 c m k))∧Ext w2 wq) (fun _ sk _=>c.length - (intOf sk).toNat);(case atStart=>exact⟨0,om,rfl,rfl,er _⟩);case round =>
     rename World=>wq;obtain⟨k,hk,rfl,rfl,hEq⟩:=hrel;have hb:=jo3 He.out m k om;by_cases hkl:k<c.length
     . have hck:=Hcell.out k wq hkl (hE02.trans hEq);have hy:=bq5 He.out k;have hsh:=K0 (a:=m) (n:=k) om;have hbt:=X8 (a:=m) (n:=k) om om;cases hbit:m.testBit k
       . have hn:Hid (K6 (G8 c m (k+1))=K6 (G8 c m k)):=zh (by rw[c42 hbit]);rw[hbit] at hbt;obtain⟨S,hS⟩:=nq (K6 (G8 c m k));rw[<-hS] at hb hn;rw[<-hS];clear hS hbit;exact zz103
       . have hn:Hid (K6 (G8 c m (k+1))=K6 (G8 c m k)+nth c k):=zh (by rw[bx2 hbit,d04]);rw[hbit] at hbt;obtain⟨Y,hY⟩:=nq (nth c k);obtain⟨S,hS⟩:=nq (K6 (G8 c m k));rw[<-hY] at hck hy hn;rw[<-hS] at hb hn;rw[<-hS];have hw:IntKind.i64.wrap (S+Y)=S+Y:=IntWalk.i64_in _ om;clear hY hS hbit;exact zz103
     . have hkl2:k=c.length:=(by omega);subst hkl2;have hEf:=hE02.trans hEq;have hP:G8 c m c.length=O8 c m:=rfl;rw[hP] at hb;rw[hP];clear hP;by_cases hz:K6 (O8 c m)=0
       . have Hz:=zh (ji2 He.out hlt hm1 H.out hz);rw[hz];clear hz;go_wp2_with (go_at_call 165;refine (M6 m hm24 _).mono ?_;rintro e w3 ⟨v3,rfl,hO3,hE3⟩);rw[Hz.out.1,Hz.out.2];exact bodyPost_ret (v:=.tuple #[v3,.bool true]) (by simp[results,Tryz.results156,go_sem]) rfl ⟨_,rfl,hO3.mono hEf,hEf.trans hE3⟩
       . have hzq:(K6 (O8 c m) == 0)=false:=(by rw[beq_eq_false_iff_ne];exact hz);have Hz:Hid (¬K6 (O8 c m)=0):=zh hz;exact zz114
  . have Hz:=zh (dt2 He.out fun j h1 h2=>H.out j h1 om);have hltI:¬(m:Int)<(pw c.length:Int):=om;exact zz87
theorem zz100{P:Prop}(h:P:=by exact⟨q+1,a6,c6,om,om,zg,by rw[show q+1 - 1=q by omega],by rw[show q+1 - 1=q by omega];exact hO6,hE6⟩):P:=h
theorem cc2(c cs:List Int)(n:Nat)(He:Hid (eqB c=true))(hn:n<=12)(hcs:cs=[]∨n<=cs.length) :
 ∀r (X:List Nat) (most:Nat) (w:World) (vc vs vx:Value),c9 w vc c->c9 w vs cs->c9 w vx (b9 X)->X.length+r=c.length->(∀x∈X,1<=x∧x<=n)->1<=most->most<=10000 ->
 Calls Tryz.prog 257 #[vc,.int .i64 n,vs,vx,.int .i64 most] w fun e w'=>∃v',e=.returned v'∧E7 w w' v' (min (C5 c n cs r X) most)∧Ext w w':=by
 have h4:=(T5 He.out).2.1;intro r;induction r with
 | zero =>
  intro X most w vc vs vx hc hs hx hr hX hm1 hm2;have hX12:∀x∈X,x<=12:=fun x hx=>by have:=hX x hx;omega
  obtain⟨aoc,cc,adrc,rfl,-,hadrc,hcellc⟩:=hc.op;obtain⟨aox,cx,adrx,rfl,hadrx,hcellx⟩:=hx.nats;obtain⟨aos,css,rfl,-⟩:=hs;have hixc:=j3 (c:=cc) elI szI hadrc;have hixx:=j3 (c:=cx) elI szI hadrx;have Hc:=zh hcellc;have Hx:=zh hcellx;have hq:((X.length:Int) == (c.length:Int))=true:=by rw[beq_iff_eq];omega
  clear hadrc hcellc hadrx hcellx hc hx;have Hr:=zh hr;have HX:=zh hX;clear hX;go_in;go_wp2_with fail;go_loopw [11,12] (fun ss si wr=>∃k:Nat,k<=c.length∧si=.int .i64 k∧ss=.int .i64 (b10 c X k)∧Ext w wr) (fun _ si _=>c.length - (intOf si).toNat);case atStart=>exact⟨0,om,rfl,rfl,er _⟩
  case round =>
   rename World=>wr;obtain⟨k,hk,rfl,rfl,hE0⟩:=hrel;by_cases hlt:k<c.length
   . have hltI:(k:Int)<(c.length:Int):=(by omega);have hkX:k<X.length:=om;have hckU:=fun U=>Hc.out k (Lat wr U) hlt (hE0.trans (d5 wr U));have hcxU:=fun U=>Hx.out k (Lat wr U) hkX (hE0.trans (d5 wr U));have hyb:=HX.out _ (o6 hkX);have hcb:=bq5 He.out k;have hmb:=cm8 (a:=nth c k) (y:=d8 X k) hcb.1 hcb.2 om;have hdb:=bv4 He.out hX12 k om;have Hn:Hid (b10 c X (k+1)=b10 c X k+nth c k*(d8 X k:Int)):=zh rfl;obtain⟨D,hD⟩:=nq (b10 c X k);obtain⟨A,hA⟩:=nq (nth c k);obtain⟨Y,hY⟩:∃D:Int,D=(d8 X k:Int):=⟨_,rfl⟩;obtain⟨P,hP⟩:∃D:Int,D=A*Y:=⟨_,rfl⟩;rw[<-hD] at hdb Hn ⊢;rw[<-hA] at hckU hmb Hn;rw[<-hY] at hcxU hmb Hn;rw[<-hP] at hmb Hn;have hw1:IntKind.i64.wrap (A*Y)=P:=(by rw[<-hP];exact IntWalk.i64_in _ om);have hw2:IntKind.i64.wrap (D+P)=D+P:=IntWalk.i64_in _ om;have hixck:=hixc k;have hixxk:=hixx k;clear hD hA hY hP hyb hcb;have HE0:=zh hE0;clear hE0;have hE:=er wr;go_wp2_with fail;(refine wl hE ?_);(repeat (go_big_quiet_step (first | (fail "no call"))));(refine zd ?_);(clear hE);(intro W hE);go_wp2_with fail;go_roundw;(case rel=>exact⟨k+1,om,zg,by rw[Hn.out],HE0.out.trans hE⟩);case measure=>exact zm1
   . have hkl:k=X.length:=(by omega);subst hkl;have hltI:¬((X.length:Nat):Int)<(c.length:Int):=om;by_cases hz:T4 c X=0
     . have hz':b10 c X X.length=0:=hz;have Hn:Hid (min (C5 c n cs 0 X) most=1):=zh (by rw[bv0 hz];omega);rw[hz'];clear hz hz';go_wp2_with fail;go_ret;exact⟨_,rfl,by rw[Hn.out];exact jd4 hE0 _ _ _,hE0.alloc _⟩
     . have hzq:(b10 c X X.length == 0)=false:=(by rw[beq_eq_false_iff_ne];exact hz);have Hn:Hid (min (C5 c n cs 0 X) most=0):=zh (by rw[c74 hz];omega);clear hz;go_wp2_with fail;go_ret;exact⟨_,rfl,by rw[Hn.out];exact be1 hE0,hE0.alloc _⟩
 | succ r ih =>
  intro X most w vc vs vx hc hs hx hr hX hm1 hm2;have HC:=zh hc;have HS:=zh hs;have HXi:=zh hx;obtain⟨aoc,cc,rfl,-⟩:=hc;obtain⟨aox,cx,adrx,rfl,hadrx,hcellx⟩:=hx.nats;obtain⟨aos,css,adrs,rfl,-,hadrs,hcells⟩:=hs.op;have hixs:=j3 (c:=css) elI szI hadrs;have hixx:=j3 (c:=cx) elI szI hadrx;have Hs:=zh hcells;have Hx:=zh hcellx;have hq:((X.length:Int) == (c.length:Int))=false:=by rw[beq_eq_false_iff_ne];omega
  clear hadrs hcells hadrx hcellx hs;have Hr:=zh hr;have HX:=zh hX;have Hih:=zh ih;clear hX ih hx;have hO0:E7 w (w.alloc (.cells #[] 26)) (.slice (some ⟨w.heap.size,0,none⟩) 0 0) 0:=be1 (er w);have hE0:=(er w).alloc (.cells #[] 26);go_in;go_wp2_with fail;go_loopw [13,14] (fun so sy wr=>∃(q:Nat) (ao:Option Addr) (co:Nat),1<=q∧q<=n+1∧sy=.int .i64 q∧so=.slice ao (min (N1 c n cs r X (q - 1)) most) co∧E7 w wr (.slice ao (min (N1 c n cs r X (q - 1)) most) co) (min (N1 c n cs r X (q - 1)) most)∧Ext w wr) (fun _ sy _=>n+1 - (intOf sy).toNat);case atStart=>exact⟨1,some ⟨w.heap.size,0,none⟩,0,om,om,rfl,by rw[show 1 - 1=0 from rfl,c09];simp,by rw[show 1 - 1=0 from rfl,c09];simpa using hO0,hE0⟩
  case round =>
   clear hO0 hE0;rename World=>wr;obtain⟨q,ao,co,hq1,hq2,rfl,rfl,hO,hE⟩:=hrel;have HK:=zh (fun d=>bl7 c n cs r X (q - 1) d);obtain⟨K,hKd⟩:=nq (N1 c n cs r X (q - 1));rw[<-hKd] at hO HK ⊢;have HKd:=zh hKd;clear hKd;obtain⟨M,hMd⟩:=nq (min K most);rw[<-hMd] at hO ⊢;have hMm:M<=most:=om;have HMd:=zh hMd;clear hMd;by_cases hle:q<=n
   . have hleI:(q:Int)<=(n:Int):=(by omega);by_cases hlm:M<most
     . have hlmI:(M:Int)<(most:Int):=(by omega);have HKM:Hid (K=M):=zh (by have:=HMd.out;omega);have hwy:IntKind.i64.wrap ((q:Int) - 1)=((q - 1:Nat):Int):=(by rw[show (q:Int) - 1=((q - 1:Nat):Int) by omega];exact IntWalk.i64_in _ om);have HO:=zh hO;clear hO;cases hok:okC cs X q
       ·
          have HKn:Hid (N1 c n cs r X q=K):=zh (by
           have:=do3 (c:=c) (n:=n) (cs:=cs) (r:=r) (X:=X) (k:=q - 1) (by rw[show q - 1+1=q by omega];exact hok);rw[show q - 1+1=q by omega] at this;rw[this,HKd.out])
          have hcond:cs≠[]∧X≠[]∧nth cs (q - 1)≠nth cs (d8 X 0 - 1):=by
           unfold okC at hok;rw[Bool.or_eq_false_iff,Bool.or_eq_false_iff,decide_eq_false_iff_not] at hok;exact⟨fun e=>by rw[e] at hok;simp at hok,fun e=>by rw[e] at hok;simp at hok,hok.2⟩
          obtain⟨hcn,hXn,hne⟩:=hcond
          have hcl:0<cs.length:=List.length_pos_iff.2 hcn
          have hXl:0<X.length:=List.length_pos_iff.2 hXn
          have hncs:n<=cs.length:=by rcases hcs with h | h;exact absurd h hcn;exact h
          have h0:=HX.out _ (o6 hXl)
          have hclI:(0:Int)<(cs.length:Int):=om
          have hXlI:(0:Int)<(X.length:Int):=om
          have hsU:=fun U=>Hs.out (q - 1) (Lat wr U) om (hE.trans (d5 wr U))
          have hs0U:=fun U=>Hs.out (d8 X 0 - 1) (Lat wr U) om (hE.trans (d5 wr U))
          have hxU:=fun U=>Hx.out 0 (Lat wr U) hXl (hE.trans (d5 wr U))
          have hix0:∀W,(Instr.indexAt 26 (.slice aox X.length cx) (.int .i64 0)).run Tryz.prog W=.ok (.pointer (some (adrx 0))) W:=fun W=>hixx 0 W hXl
          have hw0:IntKind.i64.wrap ((d8 X 0:Int) - 1)=((d8 X 0 - 1:Nat):Int):=by rw[show (d8 X 0:Int) - 1=((d8 X 0 - 1:Nat):Int) by omega];exact IntWalk.i64_in _ om
          have hixq:=fun W=>hixs (q - 1) W om
          have hixz:=fun W=>hixs (d8 X 0 - 1) W om
          have hqne:(nth cs (q - 1) != nth cs (d8 X 0 - 1))=true:=by rw[bne_iff_ne];exact hne
          have HE:=zh hE
          clear hE hok hne hcn hXn
          have hE:=er wr
          go_wp2_with fail
          (refine wl hE ?_);(repeat (go_big_quiet_step (first | (fail "no call"))));(refine zd ?_);(clear hE);(intro W hE)
          go_wp2_with fail
          go_roundw
          case rel=>exact⟨q+1,ao,co,om,om,zg,by rw[show q+1 - 1=q by omega,HKn.out,<-HMd.out],by rw[show q+1 - 1=q by omega,HKn.out,<-HMd.out];exact HO.out.ext hE,HE.out.trans hE⟩
          case measure=>exact zm1
       . have HKn:Hid (N1 c n cs r X q=K+C5 c n cs r (X++[q])):=zh (by
          have:=bv1 (c:=c) (n:=n) (cs:=cs) (r:=r) (X:=X) (k:=q - 1) (by rw[show q - 1+1=q by omega];exact hok);rw[show q - 1+1=q by omega] at this;rw[this,HKd.out])
         have Hok:=zh hok
         clear hok
         have hwm:IntKind.i64.wrap ((most:Int) - (M:Int))=((most - M:Nat):Int):=by rw[show (most:Int) - (M:Int)=((most - M:Nat):Int) by omega];exact IntWalk.i64_in _ om
         have h4X:X.length<=4:=om
         have hxl:∀x∈X++[q],1<=x∧x<=n:=fun x hx=>by
          rw[List.mem_append,List.mem_singleton] at hx
          rcases hx with hx | hx
          . exact HX.out x hx
          . omega
         have Hxl:=zh hxl
         have Hrl:Hid ((X++[q]).length+r=c.length):=zh (by rw[List.length_append,List.length_singleton];omega)
         have Hmin:Hid (M+min (C5 c n cs r (X++[q])) (most - M)=min (K+C5 c n cs r (X++[q])) most):=zh (by have:=HKM.out;omega)
         clear hxl
         by_cases hc0:0<cs.length
         . have hclI:(0:Int)<(cs.length:Int):=by omega
           by_cases hX0:0<X.length
           . have hXlI:(0:Int)<(X.length:Int):=by omega
             have hncs:n<=cs.length:=by rcases hcs with h | h;(rw[h] at hc0;simp at hc0);exact h
             have h0:=HX.out _ (o6 hX0)
             have hsm:nth cs (q - 1)=nth cs (d8 X 0 - 1):=by
              have:=Hok.out;unfold okC at this;rw[Bool.or_eq_true,Bool.or_eq_true,decide_eq_true_iff] at this;rcases this with (h | h) | h
              . rw[List.isEmpty_iff] at h;rw[h] at hc0;simp at hc0
              . rw[List.isEmpty_iff] at h;rw[h] at hX0;simp at hX0
              . exact h
             have hsU:=fun U=>Hs.out (q - 1) (Lat wr U) om (hE.trans (d5 wr U))
             have hs0U:=fun U=>Hs.out (d8 X 0 - 1) (Lat wr U) om (hE.trans (d5 wr U))
             have hxU:=fun U=>Hx.out 0 (Lat wr U) hX0 (hE.trans (d5 wr U))
             have hix0:∀W,(Instr.indexAt 26 (.slice aox X.length cx) (.int .i64 0)).run Tryz.prog W=.ok (.pointer (some (adrx 0))) W:=fun W=>hixx 0 W hX0
             have hw0:IntKind.i64.wrap ((d8 X 0:Int) - 1)=((d8 X 0 - 1:Nat):Int):=by rw[show (d8 X 0:Int) - 1=((d8 X 0 - 1:Nat):Int) by omega];exact IntWalk.i64_in _ om
             have hixq:=fun W=>hixs (q - 1) W om
             have hixz:=fun W=>hixs (d8 X 0 - 1) W om
             have hqne:(nth cs (q - 1) != nth cs (d8 X 0 - 1))=false:=by rw[hsm];simp
             have HE:=zh hE
             clear hE hsm
             have hE:=er wr
             go_wp2_with fail
             (refine wl hE ?_);(repeat (go_big_quiet_step (first | (fail "no call"))));(refine zd ?_);(clear hE);(intro W hE)
             have hO0:Own 3 wr (W.alloc (.cells #[] 3)) (.slice (some ⟨W.heap.size,0,none⟩) 0 0) []:=m7 (TI:=3) (n:=0) om hE [] rfl
             have hE00:=hE.alloc (.cells #[] 3)
             have hI0:=HXi.out.ext (HE.out.trans hE00)
             have hlen0:([]:List Int).length+(b9 X).length<=17592186044416:=by rw[j2];simp;omega
             have hlen1:(b9 X).length<17592186044416:=by rw[j2];omega
             go_wp2_with (first
              | (at_builtin;refine A6 slI rfl _ _ rfl wr _ _ _ _ hO1 hE1 hlen1 rfl rfl ?_;intro v2 w2 hO2 hE2;rw[<-D5] at hO2)
              | (at_builtin;refine I2 slI rfl _ _ rfl wr _ _ _ _ _ hO0 hI0 hE00 hlen0 rfl rfl ?_;intro v1 w1 hO1 hE1;simp only[List.nil_append] at hO1)
              | (go_at_call 257;refine (Hih.out _ (most - M) _ _ _ _ (HC.out.ext (HE.out.trans hE2)) (HS.out.ext (HE.out.trans hE2)) hO2.ints Hrl.out Hxl.out om om).mono ?_;rintro e w5 ⟨v5,rfl,hO5,hE5⟩)
              | (at_builtin;refine bp9 rfl _ _ rfl w _ _ _ _ _ _ (HO.out.ext (hE2.trans hE5)) hO5 (HE.out.trans (hE2.trans hE5)) om rfl rfl ?_;intro v6 w6 hO6 hE6;rw[Hmin.out,<-HKn.out] at hO6;obtain⟨a6,c6,rfl,-⟩:=hO6.shape))
             go_roundw
             case rel=>exact zz100
             case measure=>exact zm1
           . have hXlI:¬(0:Int)<(X.length:Int):=by omega
             have HE:=zh hE
             clear hE
             have hE:=er wr
             go_wp2_with fail
             (refine wl hE ?_);(repeat (go_big_quiet_step (first | (fail "no call"))));(refine zd ?_);(clear hE);(intro W hE)
             have hO0:Own 3 wr (W.alloc (.cells #[] 3)) (.slice (some ⟨W.heap.size,0,none⟩) 0 0) []:=m7 (TI:=3) (n:=0) om hE [] rfl
             have hE00:=hE.alloc (.cells #[] 3)
             have hI0:=HXi.out.ext (HE.out.trans hE00)
             have hlen0:([]:List Int).length+(b9 X).length<=17592186044416:=by rw[j2];simp;omega
             have hlen1:(b9 X).length<17592186044416:=by rw[j2];omega
             go_wp2_with (first
              | (at_builtin;refine A6 slI rfl _ _ rfl wr _ _ _ _ hO1 hE1 hlen1 rfl rfl ?_;intro v2 w2 hO2 hE2;rw[<-D5] at hO2)
              | (at_builtin;refine I2 slI rfl _ _ rfl wr _ _ _ _ _ hO0 hI0 hE00 hlen0 rfl rfl ?_;intro v1 w1 hO1 hE1;simp only[List.nil_append] at hO1)
              | (go_at_call 257;refine (Hih.out _ (most - M) _ _ _ _ (HC.out.ext (HE.out.trans hE2)) (HS.out.ext (HE.out.trans hE2)) hO2.ints Hrl.out Hxl.out om om).mono ?_;rintro e w5 ⟨v5,rfl,hO5,hE5⟩)
              | (at_builtin;refine bp9 rfl _ _ rfl w _ _ _ _ _ _ (HO.out.ext (hE2.trans hE5)) hO5 (HE.out.trans (hE2.trans hE5)) om rfl rfl ?_;intro v6 w6 hO6 hE6;rw[Hmin.out,<-HKn.out] at hO6;obtain⟨a6,c6,rfl,-⟩:=hO6.shape))
             go_roundw
             case rel=>exact zz100
             case measure=>exact zm1
         . have hclI:¬(0:Int)<(cs.length:Int):=by omega
           have HE:=zh hE
           clear hE
           have hE:=er wr
           ·
              go_wp2_with fail
              (refine wl hE ?_);(repeat (go_big_quiet_step (first | (fail "no call"))));(refine zd ?_);(clear hE);(intro W hE)
              have hO0:Own 3 wr (W.alloc (.cells #[] 3)) (.slice (some ⟨W.heap.size,0,none⟩) 0 0) []:=m7 (TI:=3) (n:=0) om hE [] rfl
              have hE00:=hE.alloc (.cells #[] 3)
              have hI0:=HXi.out.ext (HE.out.trans hE00)
              have hlen0:([]:List Int).length+(b9 X).length<=17592186044416:=by rw[j2];simp;omega
              have hlen1:(b9 X).length<17592186044416:=by rw[j2];omega
              go_wp2_with (first
               | (at_builtin;refine A6 slI rfl _ _ rfl wr _ _ _ _ hO1 hE1 hlen1 rfl rfl ?_;intro v2 w2 hO2 hE2;rw[<-D5] at hO2)
               | (at_builtin;refine I2 slI rfl _ _ rfl wr _ _ _ _ _ hO0 hI0 hE00 hlen0 rfl rfl ?_;intro v1 w1 hO1 hE1;simp only[List.nil_append] at hO1)
               | (go_at_call 257;refine (Hih.out _ (most - M) _ _ _ _ (HC.out.ext (HE.out.trans hE2)) (HS.out.ext (HE.out.trans hE2)) hO2.ints Hrl.out Hxl.out om om).mono ?_;rintro e w5 ⟨v5,rfl,hO5,hE5⟩)
               | (at_builtin;refine bp9 rfl _ _ rfl w _ _ _ _ _ _ (HO.out.ext (hE2.trans hE5)) hO5 (HE.out.trans (hE2.trans hE5)) om rfl rfl ?_;intro v6 w6 hO6 hE6;rw[Hmin.out,<-HKn.out] at hO6;obtain⟨a6,c6,rfl,-⟩:=hO6.shape))
              go_roundw
              case rel=>exact zz100
              case measure=>exact zm1
     . have hlmI:¬(M:Int)<(most:Int):=(by omega);have Hn:Hid (min (C5 c n cs (r+1) X) most=M):=zh (by
        have:=HK.out (n - (q - 1));rw[show q - 1+(n - (q - 1))=n by omega] at this;have:=HMd.out;rw[b30];omega)
       go_wp2_with fail;go_ret;exact⟨_,rfl,by rw[Hn.out];exact hO,hE⟩
   . have hleI:¬(q:Int)<=(n:Int):=(by omega);have Hn:Hid (min (C5 c n cs (r+1) X) most=M):=zh (by
      have:=HKd.out;rw[show q - 1=n by omega] at this;rw[b30,<-this,HMd.out])
     go_wp2_with fail;go_ret;exact⟨_,rfl,by rw[Hn.out];exact hO,hE⟩
theorem ci3(u:Value)(c:List Int)(n:Nat)(w:World)(hu:c9 w u c)(he:eqB c=true)(hn:n<=8) :
 Calls Tryz.prog 155 #[u,.int .i64 n] w fun e w'=>∃v',e=.returned (.tuple #[v',.bool true])∧E7 w w' v' (C5 c n [] c.length [])∧Ext w w':=by
 have cE:=fun W (hW:Ext w W)=>b58 u c W (hu.ext hW);rw[he] at cE;have hin:inB (n:Int) 0 8=true:=Z9.2 om;have cW:=fun W=>Q8 (n:Int) 0 8 W;rw[hin] at cW;have hcN:C5 c n [] c.length []<=4096:=by
  exact zz120
 have HU:=zh hu;have He:=zh he;have hmn:min (C5 c n [] c.length []) 10000=C5 c n [] c.length []:=om;have cF:=fun (W:World) (hW:Ext w W) (v1 v2:Value) (h1:c9 W v1 []) (h2:c9 W v2 (b9 []))=>cc2 c [] n He om (Or.inl rfl) c.length [] 10000 W u v1 v2 (HU.out.ext hW) h1 h2 zm zm om om;simp only[hmn,show ((10000:Nat):Int)=10000 from rfl] at cF;clear hmn hu he hin;go_in;go_wp2_with fail;refine (cE _ (er _)).mono ?_;rintro e w1 ⟨rfl,hE1⟩;have hO0:Own 3 w (w1.alloc (.cells #[] 3)) (.slice (some ⟨w1.heap.size,0,none⟩) 0 0) []:=m7 (TI:=3) (n:=0) om hE1 [] rfl;have hE2:=hE1.alloc (.cells #[] 3);have hO1:Own 3 w ((w1.alloc (.cells #[] 3)).alloc (.cells #[] 3)) (.slice (some ⟨w1.heap.size+1,0,none⟩) 0 0) (b9 []):=by
  have:=m7 (TI:=3) (n:=0) om hE2 [] rfl;simpa[b9] using this
 have hE3:=hE2.alloc (.cells #[] 3);have cF1:=cF _ hE3 _ _ (hO0.ints.ext ((er _).alloc _)) hO1.ints;clear cF cE;go_wp2_with (first | (refine (cW _).mono ?_;rintro e w' ⟨rfl,rfl⟩) | (refine cF1.mono ?_;rintro e w4 ⟨v4,rfl,hO4,hE4⟩) | (go_at_call 257;refine cF1.mono ?_;rintro e w4 ⟨v4,rfl,hO4,hE4⟩));exact bodyPost_ret (v:=.tuple #[v4,.bool true]) (by simp[results,Tryz.results155,go_sem]) rfl ⟨_,rfl,hO4.mono hE3,hE3.trans hE4⟩
theorem bl0(u vs:Value)(c cs:List Int)(w:World)(hu:c9 w u c)(hv:c9 w vs cs)(he:eqB c=true)(h1:1<=cs.length)(h12:cs.length<=12) :
 Calls Tryz.prog 318 #[u,vs] w fun e w'=>∃v',e=.returned (.tuple #[v',.bool (J5 c cs)])∧Ext w w':=by
 have cE:=fun W (hW:Ext w W)=>b58 u c W (hu.ext hW);rw[he] at cE;have HU:=zh hu;have HV:=zh hv;have He:=zh he;have hne:cs≠[]:=fun e=>by rw[e] at h1;simp at h1
 have hq0:((cs.length:Int) == 0)=false:=by rw[beq_eq_false_iff_ne];omega
 have hq12:¬(12:Int)<(cs.length:Int):=om;obtain⟨aos,css,rfl,-⟩:=hv;have cF:=fun (W:World) (hW:Ext w W) (v2:Value) (h2:c9 W v2 (b9 []))=>cc2 c cs cs.length He h12 (Or.inr (Nat.le_refl _)) c.length [] 1 W u (.slice aos cs.length css) v2 (HU.out.ext hW) (HV.out.ext hW) h2 zm zm om om;obtain⟨m,hm⟩:=nq (min (C5 c cs.length cs c.length []) 1);simp only[<-hm,show ((1:Nat):Int)=1 from rfl] at cF;have hM:Hid ((J5 c cs=true->m=1)∧(J5 c cs=false->m=0)):=zh (by
  have:=jc3 (c:=c) hne;constructor
  . intro h;have:=this.2 h;omega
  . intro h;have h0:¬0<C5 c cs.length cs c.length []:=fun e=>(by rw[this.1 e] at h;cases h);omega)
 clear hm hu he hne h1;cases hb:J5 c cs
 . have hm0:=hM.out.2 hb;subst hm0;have Hb:=zh hb;have hqm:(((0:Nat):Int) == 0)=true:=rfl;clear hb;go_in;go_wp2_with fail;refine (cE _ (er _)).mono ?_;rintro e w1 ⟨rfl,hE1⟩;have hO0:Own 3 w (w1.alloc (.cells #[] 3)) (.slice (some ⟨w1.heap.size,0,none⟩) 0 0) (b9 []):=m7 (TI:=3) (n:=0) om hE1 (b9 []) rfl;have hE2:=hE1.alloc (.cells #[] 3);have cF1:=cF _ hE2 _ hO0.ints;clear cF cE;go_wp2_with (first | (refine cF1.mono ?_;rintro e w4 ⟨v4,rfl,hO4,hE4⟩;obtain⟨a4,c4,rfl,-,hcl4⟩:=hO4.shape;have hE04:=hE2.trans hE4) | (go_at_call 257;refine cF1.mono ?_;rintro e w4 ⟨v4,rfl,hO4,hE4⟩;obtain⟨a4,c4,rfl,-,hcl4⟩:=hO4.shape;have hE04:=hE2.trans hE4));exact bodyPost_ret (v:=.tuple #[.slice (some ⟨w4.heap.size,0,none⟩) 0 0,.bool false]) (by simp[results,Tryz.results318,go_sem]) rfl ⟨_,rfl,hE04.alloc _⟩
 . have hm1:=hM.out.1 hb;subst hm1;have Hb:=zh hb;have hqm:(((1:Nat):Int) == 0)=false:=rfl;clear hb;have hix0:∀(g c4:Nat) W,(Instr.indexAt 93 (.slice (some ⟨g,0,none⟩) 1 c4) (.int .i64 0)).run Tryz.prog W=.ok (.pointer (some ⟨g,0,none⟩)) W:=fun g c4 W=>by
    have:=j3 (P:=Tryz.prog) (ao:=some ⟨g,0,none⟩) (n:=1) (c:=c4) (adr:=fun i=>⟨g,i,none⟩) elV szV (fun i _=>⟨rfl,by simp[Addr.add]⟩) 0 W om
    exact this
   go_in;go_wp2_with fail;refine (cE _ (er _)).mono ?_;rintro e w1 ⟨rfl,hE1⟩;have hO0:Own 3 w (w1.alloc (.cells #[] 3)) (.slice (some ⟨w1.heap.size,0,none⟩) 0 0) (b9 []):=m7 (TI:=3) (n:=0) om hE1 (b9 []) rfl;have hE2:=hE1.alloc (.cells #[] 3);have cF1:=cF _ hE2 _ hO0.ints;clear cF cE;go_wp2_with (first | (refine cF1.mono ?_;rintro e w4 ⟨v4,rfl,hO4,hE4⟩;obtain⟨a4,c4,rfl,-,hcl4⟩:=hO4.shape;have hE04:=hE2.trans hE4;obtain⟨g,x,rfl,hcx⟩:=hcl4 0 om;have hix:=hix0 g c4) | (go_at_call 257;refine cF1.mono ?_;rintro e w4 ⟨v4,rfl,hO4,hE4⟩;obtain⟨a4,c4,rfl,-,hcl4⟩:=hO4.shape;have hE04:=hE2.trans hE4;obtain⟨g,x,rfl,hcx⟩:=hcl4 0 om;have hix:=hix0 g c4));exact bodyPost_ret (v:=.tuple #[x,.bool true]) (by simp[results,Tryz.results318,go_sem]) rfl ⟨_,rfl,hE04⟩
theorem dm8{f:Nat->Bool}(h:∀j,j<2->f j=false):(List.range 2).any f=false:=by
 rw[List.any_eq_false];intro j hj;rw[h j (List.mem_range.1 hj)];simp
theorem d53{f:Nat->Bool}{j:Nat}(hj:j<2)(h:f j=true):(List.range 2).any f=true:=by
 rw[List.any_eq_true];exact⟨j,List.mem_range.2 hj,h⟩
theorem zz112{P:Prop}(h:P:=by have hltI:¬(x:Int)<2:=(by omega);have Hf:Hid (avF c 2 n (f+1) cs=false):=zh (by rw[Hpt.out];exact dm8 fun j hj=>HN.out j om);go_wp2_with fail;go_ret;exact⟨j5 Hf.out.symm,hE⟩):P:=h
theorem zz158{P:Prop}(h:P:=by go_in;go_wp2_with (go_at_call 318;refine (cM _ hE0).mono ?_;rintro e w1 ⟨v1,rfl,hE1⟩);go_ret;exact⟨j5 Hf.out.symm,hE1⟩):P:=h
theorem zz173{P:Prop}(h:P:=by exact⟨x+1,om,zg,hE2.trans hE3,zh fun j hj=>by by_cases q:j=x;(rw[q];exact HRd.out.symm);exact HN.out j om⟩):P:=h
theorem d27(c:List Int)(n:Nat)(He:Hid (eqB c=true))(hn1:1<=n)(hn:n<=9):∀f (cs:List Int),cs.length<=n->n<cs.length+f->∀(w:World) (u vs:Value),c9 w u c->c9 w vs cs ->
 Calls Tryz.prog 258 #[u,.int .i64 2,.int .i64 n,vs] w fun e w'=>e=.returned (.bool (avF c 2 n f cs))∧Ext w w':=by
 intro f;induction f with
 | zero=>intro cs h1 h2;omega
 | succ f ih =>
  intro cs hl1 hl2 w u vs hu hv;have HU:=zh hu;have HV:=zh hv;have Hih:=zh ih;obtain⟨aos,css,rfl,-⟩:=hv;have hE0:=er w;clear ih hu;by_cases hc0:0<cs.length;rotate_left
  . have hcs:cs=[]:=List.eq_nil_of_length_eq_zero om;have hc0I:¬(0:Int)<(cs.length:Int):=om;have hnl:¬cs.length=n:=om;have hq:((cs.length:Int) == (n:Int))=false:=(by rw[beq_eq_false_iff_ne];omega);have Hmo:Hid ((decide (cs≠[])&&J5 c cs)=false):=zh (by rw[hcs];simp);clear hcs;go_in;go_wp2_with fail;have Hpt:Hid (avF c 2 n (f+1) cs=(List.range 2).any (fun x=>avF c 2 n f (cs++[(x:Int)]))):=zh (ce4 Hmo.out hnl);go_loopw [11] (fun sx wr=>∃x:Nat,x<=2∧sx=.int .i64 x∧Ext w wr∧Hid (∀j,j<x->avF c 2 n f (cs++[(j:Int)])=false)) (fun sx _=>2 - (intOf sx).toNat);(case atStart=>exact⟨0,om,rfl,hE0,zh fun j hj=>absurd hj om⟩);case round =>
     rename World=>wr;obtain⟨x,hx,rfl,hE,HN⟩:=hrel;by_cases hlt:x<2
     . have hltI:(x:Int)<2:=(by omega);have hO0:Own 3 w (wr.alloc (.cells #[] 3)) (.slice (some ⟨wr.heap.size,0,none⟩) 0 0) []:=m7 (TI:=3) (n:=0) om hE [] rfl;have hE00:=hE.alloc (.cells #[] 3);have hI0:=HV.out.ext hE00;have hlen0:([]:List Int).length+cs.length<=17592186044416:=(by simp;omega);have hlen1:cs.length<17592186044416:=om;have HR:Hid (∀R,R=avF c 2 n f (cs++[(x:Int)])->True):=zh fun _ _=>trivial;obtain⟨R,hR⟩:∃R,R=avF c 2 n f (cs++[(x:Int)]):=⟨_,rfl⟩;have HRd:=zh hR;have cA:=fun (W:World) (hW:Ext w W) (v2:Value) (h2:c9 W v2 (cs++[(x:Int)]))=>Hih.out (cs++[(x:Int)]) (by rw[List.length_append,List.length_singleton];omega) (by rw[List.length_append,List.length_singleton];omega) W u v2 (HU.out.ext hW) h2;rw[<-hR] at cA;clear hR HR hE;cases R
       . go_wp2_with (first
          | (at_builtin;refine A6 slI rfl _ _ rfl w _ _ _ _ hO1 hE1 hlen1 rfl rfl ?_;intro v2 w2 hO2 hE2)
          | (at_builtin;refine I2 slI rfl _ _ rfl w _ _ _ _ _ hO0 hI0 hE00 hlen0 rfl rfl ?_;intro v1 w1 hO1 hE1;simp only[List.nil_append] at hO1)
          | (go_at_call 258;refine (cA _ hE2 _ hO2.ints).mono ?_;rintro e w3 ⟨rfl,hE3⟩))
         go_roundw
         case rel=>exact zz173
         case measure=>exact zm1
       . have Hf:Hid (avF c 2 n (f+1) cs=true):=zh (by rw[Hpt.out];exact d53 hlt HRd.out.symm);go_wp2_with (first
          | (at_builtin;refine A6 slI rfl _ _ rfl w _ _ _ _ hO1 hE1 hlen1 rfl rfl ?_;intro v2 w2 hO2 hE2)
          | (at_builtin;refine I2 slI rfl _ _ rfl w _ _ _ _ _ hO0 hI0 hE00 hlen0 rfl rfl ?_;intro v1 w1 hO1 hE1;simp only[List.nil_append] at hO1)
          | (go_at_call 258;refine (cA _ hE2 _ hO2.ints).mono ?_;rintro e w3 ⟨rfl,hE3⟩))
         go_ret;exact⟨j5 Hf.out.symm,hE2.trans hE3⟩
     . exact zz112
  have hc0I:(0:Int)<(cs.length:Int):=om;have hne:cs≠[]:=List.length_pos_iff.1 hc0;have cM:=fun W (hW:Ext w W)=>bl0 u (.slice aos cs.length css) c cs W (HU.out.ext hW) (HV.out.ext hW) He.out om om;cases hm:J5 c cs
  . rw[hm] at cM;have Hmo:Hid ((decide (cs≠[])&&J5 c cs)=false):=zh (by rw[hm];simp);clear hm hne;by_cases hnl:cs.length=n
    . have hq:((cs.length:Int) == (n:Int))=true:=(by rw[beq_iff_eq];omega);have Hf:Hid (avF c 2 n (f+1) cs=true):=zh (d60 Hmo.out hnl);clear hnl;exact zz158
    . have hq:((cs.length:Int) == (n:Int))=false:=(by rw[beq_eq_false_iff_ne];omega);go_in;go_wp2_with (go_at_call 318;refine (cM _ hE0).mono ?_;rintro e w1 ⟨v1,rfl,hE1⟩);clear cM;have Hpt:Hid (avF c 2 n (f+1) cs=(List.range 2).any (fun x=>avF c 2 n f (cs++[(x:Int)]))):=zh (ce4 Hmo.out hnl);go_loopw [11] (fun sx wr=>∃x:Nat,x<=2∧sx=.int .i64 x∧Ext w wr∧Hid (∀j,j<x->avF c 2 n f (cs++[(j:Int)])=false)) (fun sx _=>2 - (intOf sx).toNat);(case atStart=>exact⟨0,om,rfl,hE1,zh fun j hj=>absurd hj om⟩);case round =>
       rename World=>wr;obtain⟨x,hx,rfl,hE,HN⟩:=hrel;by_cases hlt:x<2
       . have hltI:(x:Int)<2:=(by omega);have hO0:Own 3 w (wr.alloc (.cells #[] 3)) (.slice (some ⟨wr.heap.size,0,none⟩) 0 0) []:=m7 (TI:=3) (n:=0) om hE [] rfl;have hE00:=hE.alloc (.cells #[] 3);have hI0:=HV.out.ext hE00;have hlen0:([]:List Int).length+cs.length<=17592186044416:=(by simp;omega);have hlen1:cs.length<17592186044416:=om;have HR:Hid (∀R,R=avF c 2 n f (cs++[(x:Int)])->True):=zh fun _ _=>trivial;obtain⟨R,hR⟩:∃R,R=avF c 2 n f (cs++[(x:Int)]):=⟨_,rfl⟩;have HRd:=zh hR;have cA:=fun (W:World) (hW:Ext w W) (v2:Value) (h2:c9 W v2 (cs++[(x:Int)]))=>Hih.out (cs++[(x:Int)]) (by rw[List.length_append,List.length_singleton];omega) (by rw[List.length_append,List.length_singleton];omega) W u v2 (HU.out.ext hW) h2;rw[<-hR] at cA;clear hR HR hE;cases R
         . go_wp2_with (first
            | (at_builtin;refine A6 slI rfl _ _ rfl w _ _ _ _ hO1 hE1 hlen1 rfl rfl ?_;intro v2 w2 hO2 hE2)
            | (at_builtin;refine I2 slI rfl _ _ rfl w _ _ _ _ _ hO0 hI0 hE00 hlen0 rfl rfl ?_;intro v1 w1 hO1 hE1;simp only[List.nil_append] at hO1)
            | (go_at_call 258;refine (cA _ hE2 _ hO2.ints).mono ?_;rintro e w3 ⟨rfl,hE3⟩))
           go_roundw
           case rel=>exact zz173
           case measure=>exact zm1
         . have Hf:Hid (avF c 2 n (f+1) cs=true):=zh (by rw[Hpt.out];exact d53 hlt HRd.out.symm);go_wp2_with (first
            | (at_builtin;refine A6 slI rfl _ _ rfl w _ _ _ _ hO1 hE1 hlen1 rfl rfl ?_;intro v2 w2 hO2 hE2)
            | (at_builtin;refine I2 slI rfl _ _ rfl w _ _ _ _ _ hO0 hI0 hE00 hlen0 rfl rfl ?_;intro v1 w1 hO1 hE1;simp only[List.nil_append] at hO1)
            | (go_at_call 258;refine (cA _ hE2 _ hO2.ints).mono ?_;rintro e w3 ⟨rfl,hE3⟩))
           go_ret;exact⟨j5 Hf.out.symm,hE2.trans hE3⟩
       . exact zz112
  . rw[hm] at cM;have Hf:Hid (avF c 2 n (f+1) cs=false):=zh (d61 hne hm);clear hm hne;exact zz158
theorem co7(u:Value)(c:List Int)(w:World)(hu:c9 w u c) :
 Calls Tryz.prog 157 #[u,.int .i64 2] w fun e w'=>e=.returned (.int .i64 (W9 c))∧Ext w w':=by
 have cE:=fun W (hW:Ext w W)=>b58 u c W (hu.ext hW);have HU:=zh hu;obtain⟨ao,co,rfl,-⟩:=hu;cases he:eqB c
 . have Hr:=zh (co0 (c:=c) (Or.inl he));rw[he] at cE;exact zz51
 . rw[he] at cE;have h24:=T5 he;by_cases h3:c.length<=3;rotate_left
   . have Hr:=zh (co0 (c:=c) (Or.inr h3));have h3I:(3:Int)<(c.length:Int):=om;exact zz51
   . have h3I:¬(3:Int)<(c.length:Int):=(by omega);have hin:inB (2:Int) 1 2=true:=(by decide);have cW:=fun W=>Q8 (2:Int) 1 2 W;rw[hin] at cW;have He:=zh he;have H3:=zh h3;have cA:=fun (n:Nat) (h1:1<=n) (h9:n<=9) (vl:Value) (W:World) (hW:Ext w W) (hv:c9 W vl [])=>d27 c n He h1 h9 (n+1) [] zm zm W (.slice ao c.length co) vl (HU.out.ext hW) hv;have Hav:=zh (fun n (hn:1<=n)=>ji5 (c:=c) om hn);clear he h24 h3;go_in;go_wp2_with fail;refine (cE _ (er _)).mono ?_;rintro e w1 ⟨rfl,hE1⟩;go_wp2_with (refine (cW _).mono ?_;rintro e w' ⟨rfl,rfl⟩);clear cE cW hin;go_loopw [5] (fun sn wr=>∃n:Nat,1<=n∧n<=10∧sn=.int .i64 n∧Ext w wr∧Hid (∀j,j+1<n->b89 c (j+1)=false)) (fun sn _=>10 - (intOf sn).toNat);(case atStart=>exact⟨1,om,om,rfl,hE1,zh fun j hj=>absurd hj om⟩);case round =>
      clear hE1;rename World=>wr;obtain⟨n,hn1,hn2,rfl,hE,HN⟩:=hrel;by_cases h9:n<=9
      . have h9I:(n:Int)<=9:=(by omega);have hO0:Own 3 w (wr.alloc (.cells #[] 3)) (.slice (some ⟨wr.heap.size,0,none⟩) 0 0) []:=m7 (TI:=3) (n:=0) om hE [] rfl;have hE2:=hE.alloc (.cells #[] 3);have cB:=cA n hn1 h9 _ _ hE2 hO0.ints;rw[Hav.out n hn1] at cB;cases ha:b89 c n
        . rw[ha] at cB;have Ha:=zh ha;clear ha cA hE;go_wp2_with (go_at_call 258;refine cB.mono ?_;rintro e w3 ⟨rfl,hE3⟩);go_roundw;(case rel=>exact⟨n+1,om,om,zg,hE2.trans hE3,zh fun i hi=>by by_cases q:i+1=n;(rw[q];exact Ha.out);exact HN.out i om⟩);case measure=>exact zm1
        . rw[ha] at cB;have Hr:Hid (W9 c=(n:Int)):=zh (by
           have:=j47 He.out H3.out (n:=n - 1) om (fun j hj=>HN.out j om) (by rw[show n - 1+1=n by omega];exact ha);rw[this];omega)
          clear ha cA hE;go_wp2_with (go_at_call 258;refine cB.mono ?_;rintro e w3 ⟨rfl,hE3⟩);go_ret;exact⟨o7 Hr.out.symm,hE2.trans hE3⟩
      . exact zz143
end Go.Zz
