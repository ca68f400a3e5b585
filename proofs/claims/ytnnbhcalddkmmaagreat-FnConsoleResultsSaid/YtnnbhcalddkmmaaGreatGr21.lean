/- SolutionsIn of the program. -/
import Derived.Test.YtnnbhcalddkmmaaGreatGr20
import Derived.Test.YtnnbhcalddkmmaaGreatGr7
import Derived.Deep.AppendLies
import Derived.Test.YtnnbhcalddkmmaaGreatGr19
import Derived.Laws.EntriesVeiled
import Derived.Test.YtnnbhcalddkmmaaGreatGr10
import Derived.Test.YtnnbhcalddkmmaaGreatGr6
set_option linter.unusedSimpArgs false
set_option linter.unusedVariables false
set_option linter.unnecessarySimpa false
namespace Go.Zz
open Go.RowKit Go.Proofs
set_option maxHeartbeats 2000000
set_option maxRecDepth 8000
theorem L5.set_ne{w0 w:World}{v:Value}{n:Nat}(h:L5 w0 w v n){b i:Nat}(hp:v.ownBlock≠some b)(u:Value):L5 w0 (w.setCell ⟨b,i,none⟩ u) v n:=by
 obtain⟨L,h1,h2,h3,h4⟩:=h;refine⟨L,h1,h2,⟨h3.1,?_⟩,h4⟩;rcases h3.2 with h | ⟨g,cap,cur,rfl,hg,hh,rest⟩
 · exact Or.inl h
 · refine Or.inr ⟨g,cap,cur,rfl,hg,?_,rest⟩;simp[Value.ownBlock] at hp;rw[Below.heap_setCell _ _ _ _ (fun e=>hp e)];exact hh
theorem L5.not{T:TypeId}{w0 w:World}{v:Value}{n:Nat}(h:L5 w0 w v n){g:Nat}{cs:Array Value}(hB:Blk w g T cs)(hT:T≠26):v.ownBlock≠some g:=fun e=>by
 obtain⟨L,-,-,h1,-⟩:=h
 rcases h1.2 with ⟨rfl,_⟩ | ⟨g',cap,cur,rfl,_,hh,_⟩
 · cases e
 · simp[Value.ownBlock] at e
   subst e
   have hB':w.heap[g']?=some (.cells cs T (0,0)):=hB
   rw[hB'] at hh
   simp at hh
   exact hT hh.2
theorem dp8{w:World}{g m:Nat}(h:Blk w g 3 ((List.replicate m (0:Int)).map (Value.int .i64)).toArray):Q7 g m [] w:=⟨List.replicate m 0,by simp,by simp[d6],h⟩
end Go.Zz
namespace Go.Zz
open Go.RowKit Go.Proofs
set_option maxHeartbeats 4000000
set_option maxRecDepth 8000
theorem j23{bR m:Nat}{X:List Nat}{w:World}(h:Q7 bR m X w)(hX:X.length=m){i:Nat}(hi:i<m):∀W,Ext w W→W.cell? ⟨bR,i,none⟩=some (.int .i64 (d5 X i)):=by
 intro W hW;obtain⟨Z,h1,h2,h3⟩:=h.ext hW;have hZ:Z=d6 X:=by rw[←h2,List.take_of_length_le (by omega)]
 subst hZ;refine h3.cell (i:=i) ?_;rw[←b22];simp[nth,List.getD,show i<(d6 X).length by omega]
theorem di1(bR m:Nat):∀(i:Nat) W,i<m→(Instr.indexAt 26 (.slice (some ⟨bR,0,none⟩) m m) (.int .i64 (i:Int))).run Tryz.prog W=.ok (.pointer (some ⟨bR,i,none⟩)) W:=fun i W hi=>by
 rw[run_indexAt_slice (h:=elI),if_pos (by omega),szI]
 simp[Result.andThen,Addr.add_lit]
def b65(w0:World)(m bI bG bT bO k:Nat)(bR:Nat)(w:World):Prop :=
 Ext w0 w∧Blk w bI 26 #[.slice (some ⟨bR,0,none⟩) m m]∧Blk w bT 158 #[.func (.func 298) #[] #[.pointer (some ⟨bI,0,none⟩),.pointer (some ⟨bG,0,none⟩),.pointer (some ⟨bT,0,none⟩),.pointer (some ⟨bO,0,none⟩)]] ∧
  ∃vo,Blk w bO 93 #[vo]∧L5 w0 w vo k∧(∀g,vo.ownBlock=some g→g≠bI)
theorem b65.ext{w0 w W:World}{m bI bG bT bO k bR:Nat}(h:b65 w0 m bI bG bT bO k bR w)(hE:Ext w W):b65 w0 m bI bG bT bO k bR W:=by
 obtain⟨h1,h2,h3,vo,h4,h5,h6⟩:=h;exact⟨h1.trans hE,h2.ext hE,h3.ext hE,vo,h4.ext hE,h5.ext hE,h6⟩
theorem b65.set{w0 w:World}{m bI bG bT bO k bR:Nat}{Z:Array Value}(h:b65 w0 m bI bG bT bO k bR w)(hR:Blk w bR 3 Z)(h0:w0.heap.size≤bR)(hI:bI≠bR)(hT:bT≠bR)(hO:bO≠bR)(i:Nat)(v:Value):b65 w0 m bI bG bT bO k bR (w.setCell ⟨bR,i,none⟩ v):=by
 obtain⟨h1,h2,h3,vo,h4,h5,h6⟩:=h;exact⟨h1.setCell h0 _,h2.other hI _,h3.other hT _,vo,h4.other hO _,h5.set_ne (h5.not hR (by decide)) _,h6⟩
theorem d09(v:Value)(l:List Int)(Hgr:Hid (c9 l=true))(w0:World)(bI bG bT bO bR:Nat)(HG:∀W,Ext w0 W→W.cell? ⟨bG,0,none⟩=some v)(HI:∀W,Ext w0 W→c8 W v l)(h0:w0.heap.size≤bO)(hRO:bR≠bO)(hIO:bI≠bO)(hTO:bT≠bO)
 (X:List Nat) (k:Nat) (w:World) (hX:X.length=l.length) (hXo:∀x∈X,x<ord l) (hk:k<1000000) (hst:b65 w0 l.length bI bG bT bO k bR w) (hrow:Q7 bR l.length X w) :
 Calls Tryz.prog 298 #[.int .i64 X.length,.pointer (some ⟨bI,0,none⟩),.pointer (some ⟨bG,0,none⟩),.pointer (some ⟨bT,0,none⟩),.pointer (some ⟨bO,0,none⟩)] w fun e w' =>
  e=.returned (.tuple #[])∧Q7 bR l.length X w'∧b65 w0 l.length bI bG bT bO (k+J2 l 0 X) bR w':=by
 have HRow:=Lib.hid (fun i (hi:i<l.length)=>j23 hrow hX hi)
 have hixR:=di1 bR l.length
 have HS:=Lib.hid hst
 have HR:=Lib.hid hrow
 obtain⟨hE00,hbI,-,-⟩:=hst
 have hI:∀W,Ext w W→W.cell? ⟨bI,0,none⟩=some (.slice (some ⟨bR,0,none⟩) l.length l.length):=fun W hW=>(hbI.ext hW).cell (i:=0) rfl
 have hG:∀W,Ext w W→W.cell? ⟨bG,0,none⟩=some v:=fun W hW=>HG W (hE00.trans hW)
 have hg:∀W,Ext w W→c8 W v l:=fun W hW=>HI W (hE00.trans hW)
 have hXl:((X.length:Nat):Int)=((l.length:Nat):Int):=by omega
 have HXl:=Lib.hid hXl
 have hob:=l8 Hgr.out
 have hl3:=C0 Hgr.out
 have HXo:=Lib.hid (fun i (hi:i<l.length)=>hXo _ (o6 (by omega:i<X.length)))
 have HFe:=Lib.hid (cr4 l X)
 have HFl:=Lib.hid (d50 Hgr.out X)
 have Hx:Hid (U7 l X=(List.range (ord l)).map (exV l X)):=Lib.hid rfl
 have HA:Hid (J2 l 0 X=if S7 l (U7 l X) then 1 else 0):=Lib.hid rfl
 rw[hXl]
 clear hXl hX hXo hrow hbI HG HI
 have hcI:=hI w (Ext.refl w)
 have hO:Own 3 w (w.alloc (.cells #[] 3)) (.slice (some ⟨w.heap.size,0,none⟩) 0 0) []:=q5 (by omega) (Ext.refl w) [] rfl
 have hE:Ext w (w.alloc (.cells #[] 3)):=(Ext.refl w).alloc _
 have hGc:=hG _ hE
 have cO:=fun W (hW:Ext w W)=>m9 v l W (hg W hW) Hgr
 go_enter Tryz.func298,Tryz.ntmps298
 go_wp2_with (go_at_call 99;refine (cO _ hE).mono ?_;rintro e w1 ⟨rfl,hE1⟩)
 replace hO:=hO.ext hE1
 replace hE:=hE.trans hE1
 clear hE1 hGc hcI
 go_loopw [7,33] (fun sv sx wr=>∃x:Nat,x≤ord l∧sx=.int .i64 x∧Own 3 w wr sv (d6 ((List.range x).map (exV l X)))∧Ext w wr) (fun _ sx _=>ord l - (intOf sx).toNat)
 case atStart=>exact⟨0,by omega,rfl,hO,hE⟩
 case round =>
  clear hE hO;obtain⟨x,hx,rfl,hO,hE⟩:=hrel;have hGx:=hG _ hE;have hAl:(d6 ((List.range x).map (exV l X))).length<17592186044416:=by rw[j8,List.length_map,List.length_range];omega
  by_cases hlt:x<ord l
  · have hltI:(x:Int)<(ord l:Int):=(by omega);have hPl:=b93 l x l.length;have HPx:=Lib.hid (fun i (hi:i<l.length)=>c81 l x hi);have Hv:Hid (exV l X x=lcT l X (plP l x l.length) l.length):=Lib.hid rfl;have cP:=fun W (hW:Ext w W)=>da5 v l x W (hg W hW) Hgr (by omega);obtain⟨P,hP⟩:∃P,P=plP l x l.length:=⟨_,rfl⟩;rw[←hP] at hPl Hv;simp only[←hP] at cP HPx;have HPl:=Lib.hid hPl;clear hP hPl;have Hs:Hid ((List.range (x+1)).map (exV l X)=(List.range x).map (exV l X)++[exV l X x]):=Lib.hid (cg7 l X);obtain⟨A,hA⟩:∃A,A=(List.range x).map (exV l X):=⟨_,rfl⟩;rw[←hA] at hO hAl Hs;clear hA;go_wp2_with (go_at_call 299;refine (cP _ hE).mono ?_;rintro e w2 ⟨vp,rfl,hOp,hE2⟩;obtain⟨aoP,cP2,adrP,rfl,hadrP,hcellP⟩:=hOp.ints.nats;have hixP:=j6 (c:=cP2) elI szI hadrP;clear hadrP);have hE02:=hE.trans hE2;have hO2:=hO.ext hE2;clear hE hO hGx hOp hE2;have hEs:=Ext.refl w2;go_loopw [9,40] (fun sz si wq=>∃i:Nat,i≤l.length∧si=.int .i64 i∧sz=.int .i64 (lcT l X P i:Nat)∧Ext w2 wq) (fun _ si _=>P.length - (intOf si).toNat);(case atStart=>exact⟨0,by omega,rfl,rfl,hEs⟩);case round =>
     clear hEs;obtain⟨i,hi,rfl,rfl,hEs⟩:=hrel;by_cases hiP:i<P.length
     · have hitI:(i:Int)<(P.length:Int):=(by omega);have hit:i<l.length:=(by have:=HPl.out;omega);have kR:=fun U=>HRow.out i hit _ (hE02.trans (hEs.trans (b9 wr U)));have kI:=fun U=>hI _ (hE02.trans (hEs.trans (b9 wr U)));have kP:=hcellP i _ hiP hEs;have kb:=fun U=>hG _ (hE02.trans (hEs.trans (b9 wr U)));have hXi:=HXo.out i hit;have hPi:=HPx.out i hit;have hT:=c73 Hgr.out X P i;have hM:=bj0 Hgr.out (d5 X i) (d5 P i);have m1:=fun U=>dj4 v l (d5 X i) (d5 P i) _ (hg _ (hE02.trans (hEs.trans (b9 wr U)))) Hgr (by omega) (by omega);have a1:=fun U=>N2 v l (lcT l X P i) (L9 l (d5 X i) (d5 P i)) _ (hg _ (hE02.trans (hEs.trans (b9 wr U)))) Hgr (by omega) (by omega);have Hn:Hid (lcT l X P (i+1)=j9 l (lcT l X P i) (L9 l (d5 X i) (d5 P i))):=Lib.hid rfl;have hEb:=hEs;clear hEs;have hE:=Ext.refl wr;go_wp2_with fail;(refine d0 (wr) (by kernel_rfl) (by kernel_rfl) hE ?_);(repeat (go_big_quiet_step (first | (go_at_call 300;with_reducible exact Calls.lat (m1 _)) | (go_at_call 224;with_reducible exact Calls.lat (a1 _)))));(refine wpQuiet_nil ?_);(intro W hE');(replace hE:=l7 hE');(clear hE');go_wp2_with fail;go_roundw;(case rel=>exact⟨i+1,by omega,by go_num,by rw[Hn.out],hEb.trans hE⟩);case measure=>(simp[intOf];omega)
     · have hil:i=l.length:=(by have:=HPl.out;omega);have hitI:¬(i:Int)<(P.length:Int):=(by omega);have hO3:=hO2.ext hEs;have hE3:=hE02.trans hEs;have HitI:=Lib.hid hitI;clear hitI hiP;rw[hil,←Hv.out];rw[hil] at HitI;have hitI:=HitI.out;clear hil hi;obtain⟨z,hz⟩:∃z,z=exV l X x:=⟨_,rfl⟩;rw[←hz] at Hs ⊢;clear hz;go_wp2_with (at_builtin;refine K4 slI rfl _ _ rfl w _ _ _ _ hO3 hE3 hAl rfl rfl ?_;intro v1 w1 hO1 hE1);go_roundw;(case rel=>exact⟨x+1,by omega,by go_num,by rw[Hs.out,J3];exact hO1,hE1⟩);case measure=>(simp[intOf];omega)
  · have hltI:¬(x:Int)<(ord l:Int):=(by omega);have hxl:x=ord l:=(by omega);rw[hxl,←Hx.out] at hO;clear hAl hxl hx hlt;obtain⟨F,hF⟩:∃F,F=U7 l X:=⟨_,rfl⟩;rw[←hF] at hO HFe HFl HA;clear hF;have cA:=bp2 _ l _ F wr (hg _ hE) hO.ints Hgr HFe.out HFl.out;obtain⟨aoF,cF,rfl,-⟩:=hO.shape;have hS:=HS.out.ext hE;have hRw:=HR.out.ext hE;cases ha:S7 l F
    · have HA2:Hid (J2 l 0 X=0):=Lib.hid (by rw[HA.out,ha];rfl);rw[ha] at cA;clear ha;go_wp2_with (go_at_call 301;refine cA.mono ?_;rintro e w5 ⟨rfl,hE5⟩);go_end0;exact⟨rfl,hRw.ext hE5,by rw[HA2.out];exact hS.ext hE5⟩
    · have HA2:Hid (J2 l 0 X=1):=Lib.hid (by rw[HA.out,ha];rfl);rw[ha] at cA;clear ha;obtain⟨s1,s2,s3,vo,s4,s5,s6⟩:=hS;obtain⟨aoO,cO2,rfl,-⟩:=s5.shape;have hob:=s5.not s4 (by decide);have hobT:=s5.not s3 (by decide);have hne:∀g,(Value.slice aoO k cO2).ownBlock=some g→g≠bO:=fun g hg e=>hob (by rw[hg,e]);have hneT:∀g,(Value.slice aoO k cO2).ownBlock=some g→g≠bT:=fun g hg e=>hobT (by rw[hg,e]);have hneR:∀g,(Value.slice aoO k cO2).ownBlock=some g→g≠bR:=fun g hg e=>by
       obtain⟨Z,-,-,hZ⟩:=hRw
       exact s5.not hZ (by decide) (by rw[hg,e])
      have kO:∀W,Ext wr W→W.cell? ⟨bO,0,none⟩=some (.slice aoO k cO2):=fun W hW=>(s4.ext hW).cell (i:=0) rfl;have Hhob:=Lib.hid hob;clear hob hobT;go_wp2_with (first | (go_at_call 301;refine cA.mono ?_;rintro e w5 ⟨rfl,hE5⟩;have kO5:=kO _ hE5;have hO5:=s5.ext hE5;have hB5:=s4.ext hE5;have hE05:=s1.trans hE5;have kO6:=kO _ (hE5.alloc (.cells #[.slice aoF (d6 F).length cF] 26))) | (at_builtin;refine c12 rfl _ _ rfl w0 _ _ k _ _ _ hO5 hE05 hk rfl rfl ?_;intro v6 w6 hO6 hG6 hN6;obtain⟨a6,c6,rfl,-⟩:=hO6.shape;have hB6:=hB5.grown hG6 hne;have hc6:=hB6.cell (i:=0) (v:=.slice aoO k cO2) rfl;have hf6:=hB6.free 0));go_end0;have hE06:Ext w0 w6:=hE05.grown hG6 (fun g hg=>(hO5.blk g hg).1);have hI6:=(s2.ext hE5).grown hG6 s6;have hT6:=(s3.ext hE5).grown hG6 hneT;refine⟨rfl,?_,?_⟩
      · obtain⟨Z,z1,z2,hZ⟩:=hRw.ext hE5;exact⟨Z,z1,z2,(hZ.grown hG6 hneR).other (by simpa using hRO) _⟩
      · rw[HA2.out];refine⟨hE06.setCell h0 _,hI6.other (by simpa using hIO) _,hT6.other (by simpa using hTO) _,_,hB6.set 0 _,hO6.set_ne (hO6.not hB6 (by decide)) _,?_⟩;intro g hg;rcases hN6 with hN | hN
        · exact s6 g (by rw[←hN];exact hg)
        · have h1:=hN g hg;have h2:=(s2.ext hE5).lt;omega
theorem d86(v:Value)(l:List Int)(Hgr:Hid (c9 l=true))(w0:World)(bI bG bT bO bR:Nat)(HG:∀W,Ext w0 W→W.cell? ⟨bG,0,none⟩=some v)(HI:∀W,Ext w0 W→c8 W v l)(h0:w0.heap.size≤bO)(h0R:w0.heap.size≤bR)(hRO:bR≠bO)(hIO:bI≠bO)(hTO:bT≠bO)(hIR:bI≠bR)(hTR:bT≠bR) :
 ∀r X k w,X.length+r=l.length→(∀x∈X,x<ord l)→k+J2 l r X≤729→b65 w0 l.length bI bG bT bO k bR w→Q7 bR l.length X w →
 Calls Tryz.prog 298 #[.int .i64 X.length,.pointer (some ⟨bI,0,none⟩),.pointer (some ⟨bG,0,none⟩),.pointer (some ⟨bT,0,none⟩),.pointer (some ⟨bO,0,none⟩)] w fun e w' =>
  e=.returned (.tuple #[])∧Q7 bR l.length X w'∧b65 w0 l.length bI bG bT bO (k+J2 l r X) bR w':=by
 intro r
 induction r with
 | zero =>
  intro X k w hr hX hkK hst hrow
  exact d09 v l Hgr w0 bI bG bT bO bR HG HI h0 hRO hIO hTO X k w (by omega) hX (by omega) hst hrow
 | succ r ih =>
  intro X k w hr hX hkK hst hrow
  have HkK:=Lib.hid hkK
  have Hih:=Lib.hid ih
  have HX:=Lib.hid hX
  have hob:=l8 Hgr.out
  have hl3:=C0 Hgr.out
  have hlt:X.length<l.length:=by omega
  have hr2:=Lib.hid hr
  have HA:Hid (J2 l (r+1) X=J6 (fun x=>J2 l r (X++[x])) (ord l)):=Lib.hid rfl
  clear hkK ih hX hr
  have hg:=fun W (hW:Ext w W)=>HI W (hst.1.trans hW)
  have hcG:=HG w hst.1
  have hcI:w.cell? ⟨bI,0,none⟩=some (.slice (some ⟨bR,0,none⟩) l.length l.length):=hst.2.1.cell (i:=0) rfl
  have cO:=m9 v l w (HI w hst.1) Hgr
  have hltI:((X.length:Nat):Int)<((l.length:Nat):Int):=by omega
  have hixR:=di1 bR l.length
  have HS:=Lib.hid hst
  have HR:=Lib.hid hrow
  clear hst hrow
  go_enter Tryz.func298,Tryz.ntmps298
  go_wp2_with (go_at_call 99;refine cO.mono ?_;rintro e w1 ⟨rfl,hE1⟩)
  have hS1:=HS.out.ext hE1
  have hR1:=HR.out.ext hE1
  clear hcG hcI
  go_loopw [18] (fun sq wr=>∃q:Nat,q≤ord l∧sq=.int .i64 q∧Q7 bR l.length X wr∧b65 w0 l.length bI bG bT bO (k+J6 (fun x=>J2 l r (X++[x])) q) bR wr) (fun sq _=>ord l - (intOf sq).toNat)
  case atStart=>exact⟨0,by omega,rfl,hR1,hS1⟩
  case round =>
   clear hS1 hR1;obtain⟨q,hq,rfl,hrow,hst⟩:=hrel;by_cases hqt:q<ord l
   · have hqtI:(q:Int)<(ord l:Int):=(by omega);have hcI:wr.cell? ⟨bI,0,none⟩=some (.slice (some ⟨bR,0,none⟩) l.length l.length):=hst.2.1.cell (i:=0) rfl;obtain⟨vz,kz⟩:=hrow.has hlt;have hfz:=hrow.free X.length;have hrow1:=hrow.set hlt q;have hst1:b65 w0 l.length bI bG bT bO (k+J6 (fun x=>J2 l r (X++[x])) q) bR (wr.setCell ⟨bR,X.length,none⟩ (.int .i64 (q:Int))):=by
      obtain⟨Z,-,-,hZ⟩:=hrow;exact hst.set hZ h0R hIR hTR (fun e=>hRO e.symm) _ _
     have hcT:(wr.setCell ⟨bR,X.length,none⟩ (.int .i64 (q:Int))).cell? ⟨bT,0,none⟩=some (.func (.func 298) #[] #[.pointer (some ⟨bI,0,none⟩),.pointer (some ⟨bG,0,none⟩),.pointer (some ⟨bT,0,none⟩),.pointer (some ⟨bO,0,none⟩)]):=hst1.2.2.1.cell (i:=0) rfl;have hix:=hixR X.length wr hlt;have hwl:IntKind.i64.wrap (((X.length:Nat):Int)+1)=((X.length:Nat):Int)+1:=IntWalk.i64_in _ (by omega);have HKq:k+J6 (fun x=>J2 l r (X++[x])) q+J2 l r (X++[q])≤729:=by
      have h1:=HkK.out;rw[HA.out] at h1;have h2:=cj2 (fun x=>J2 l r (X++[x])) (q+1) (ord l - (q+1));rw[show q+1+(ord l - (q+1))=ord l by omega] at h2;have h3:J6 (fun x=>J2 l r (X++[x])) (q+1)=J6 (fun x=>J2 l r (X++[x])) q+J2 l r (X++[q]):=rfl;omega
     have cR:=Hih.out (X++[q]) _ _ (by rw[List.length_append,List.length_singleton];have:=hr2.out;omega) (fun x hx=>by
      rw[List.mem_append,List.mem_singleton] at hx
      rcases hx with hx | rfl
      · exact HX.out x hx
      · exact hqt) HKq hst1 hrow1
     rw[show (((X++[q]).length:Nat):Int)=((X.length:Nat):Int)+1 by rw[List.length_append,List.length_singleton];omega] at cR;have Hn:Hid (k+J6 (fun x=>J2 l r (X++[x])) (q+1)=k+J6 (fun x=>J2 l r (X++[x])) q+J2 l r (X++[q])):=Lib.hid (by rw[Nat.add_assoc];rfl);clear hst hrow hst1 hrow1 HKq;go_wp2_with (go_at_call 298;refine cR.mono ?_;rintro e w2 ⟨rfl,hR2,hS2⟩);go_roundw;(case rel=>exact⟨q+1,by omega,by go_num,hR2.back,by rw[Hn.out];exact hS2⟩);case measure=>(simp[intOf];omega)
   · have hqn:q=ord l:=(by omega);have hqtI:¬(q:Int)<(ord l:Int):=(by omega);go_wp2_with fail;exact bodyPost_ret (v:=.tuple #[]) (by simp[results,Tryz.results298,go_sem]) rfl ⟨rfl,hrow,by rw[HA.out,←hqn];exact hst⟩
end Go.Zz
namespace Go.Zz
open Go.RowKit Go.Proofs
set_option maxHeartbeats 4000000
set_option maxRecDepth 8000
theorem do9{w0 w:World}{g n:Nat}{l:List Int}(h:Own 3 w0 w (.slice (some ⟨g,0,none⟩) n n) l)(hn:l.length=n):Blk w g 3 (l.map (Value.int .i64)).toArray:=by
 obtain⟨⟨h1,h2⟩,-⟩:=h;rcases h2 with ⟨hv,-⟩ | ⟨g',cap,cur,hv,hg,hh,hnc,hcm,hcs,htk⟩
 · simp at hv
 · simp only[Value.slice.injEq,Option.some.injEq,Addr.mk.injEq,and_true] at hv;obtain⟨rfl,-,rfl⟩:=hv;have e:cur=(l.map (Value.int .i64)).toArray:=by
    apply Array.toList_inj.1;rw[←htk,List.take_of_length_le (by simp[hcs];omega)]
   rw[←e];exact hh
theorem bp9(v:Value)(l:List Int)(w:World)(h:c8 w v l)(hn:auB l=false) :
 Calls Tryz.prog 213 #[.agg #[v]] w fun e w'=>∃v',e=.returned (.tuple #[v',.bool false])∧Ext w w':=by
 have hg0:=h;obtain⟨wb,Hwb,hE0,hb,hg,hE,Hsz⟩:=j60 28 h;clear h;have cG:=fun W (hW:Ext wb W)=>l0 v l W (hg W hW);have hE1:=(hE.alloc (.cells #[] 26)).alloc (.cells #[.slice (some ⟨wb.heap.size,0,none⟩) 0 0] 93);have hb1:=hb _ hE1;have kO:((wb.alloc (.cells #[] 26)).alloc (.cells #[.slice (some ⟨wb.heap.size,0,none⟩) 0 0] 93)).cell? ⟨(wb.alloc (.cells #[] 26)).heap.size,0,none⟩=some (.slice (some ⟨wb.heap.size,0,none⟩) 0 0):=(Blk.new _ _ _).cell (i:=0) rfl;have hs1:(wb.alloc (.cells #[] 26)).heap.size=wb.heap.size+1:=by simp
 rw[hs1] at kO;clear hs1;obtain⟨wc,hwc⟩:∃wc,wc=(wb.alloc (.cells #[] 26)).alloc (.cells #[.slice (some ⟨wb.heap.size,0,none⟩) 0 0] 93):=⟨_,rfl⟩;rw[←hwc] at hE1 hb1 kO;have Hwc:=Lib.hid hwc;clear hwc;have kO2:=fun W (hW:Ext wc W)=>hW.cell kO;cases hgr:c9 l
 · rw[hgr] at cG;go_enter Tryz.func213,Tryz.ntmps213;go_wp2_with fail;rw[←Hwb.out];rw[Hsz.out];rw[←Hwc.out];go_wp2_with (go_at_call 94;refine (cG _ hE1).mono ?_;rintro e w1 ⟨rfl,hE2⟩;have hb2:=hb _ (hE1.trans hE2);have kO3:=kO2 _ hE2);exact bodyPost_ret (v:=.tuple #[.slice (some ⟨wb.heap.size,0,none⟩) 0 0,.bool false]) (by simp[results,Tryz.results213,go_sem]) rfl ⟨_,rfl,hE0.trans (hE1.trans hE2)⟩
 · rw[hgr] at cG;have Hgr:=Lib.hid hgr;have h9:¬(ord l≤9):=by
    intro h9;unfold auB at hn;rw[hgr,decide_eq_true h9] at hn;cases hn
   have h9I:(9:Int)<(ord l:Int):=(by omega);have cO:=fun W (hW:Ext wb W)=>m9 v l W (hg W hW) Hgr;clear hgr hn;go_enter Tryz.func213,Tryz.ntmps213;go_wp2_with fail;rw[←Hwb.out];rw[Hsz.out];rw[←Hwc.out];go_wp2_with (first | (go_at_call 94;refine (cG _ hE1).mono ?_;rintro e w1 ⟨rfl,hE2⟩;have hE12:=hE1.trans hE2;have hb2:=hb _ hE12) | (go_at_call 99;refine (cO _ hE12).mono ?_;rintro e w3 ⟨rfl,hE3⟩;have kO3:=kO2 _ (hE2.trans hE3)));exact bodyPost_ret (v:=.tuple #[.slice (some ⟨wb.heap.size,0,none⟩) 0 0,.bool false]) (by simp[results,Tryz.results213,go_sem]) rfl ⟨_,rfl,hE0.trans (hE12.trans hE3)⟩
theorem bp1(v:Value)(l:List Int)(w:World)(h:c8 w v l)(hn:auB l=true) :
 Calls Tryz.prog 213 #[.agg #[v]] w fun e w'=>∃v',e=.returned (.tuple #[v',.bool true])∧L5 w w' v' (J2 l l.length [])∧Ext w w':=by
 have hop:=h.op;have hg0:=h;obtain⟨wb,Hwb,hE0,hb,hg,hE,Hsz⟩:=j60 28 h;clear h;obtain⟨ao,c,adr,rfl,hlen,hadr,hcell⟩:=hop;clear hadr hcell;obtain⟨hgr,h9⟩:c9 l=true∧ord l≤9:=by unfold auB at hn;simpa using hn
 have Hgr:=Lib.hid hgr;have hl3:=C0 hgr;have hob:=l8 hgr;have Hle:Hid (J2 l l.length []≤729):=Lib.hid (Nat.le_trans (cb1 l l.length []) (c42 h9 hl3));have cG:=fun W (hW:Ext wb W)=>l0 _ l W (hg W hW);rw[hgr] at cG;clear hgr hn;have cO:=fun W (hW:Ext wb W)=>m9 _ l W (hg W hW) Hgr;have h9I:¬(9:Int)<(ord l:Int):=by omega
 have hO0:L5 wb (wb.alloc (.cells #[] 26)) (.slice (some ⟨wb.heap.size,0,none⟩) 0 0) 0:=ci6 hE;have hE1:=(hE.alloc (.cells #[] 26)).alloc (.cells #[.slice (some ⟨wb.heap.size,0,none⟩) 0 0] 93);have hb1:=hb _ hE1;have hs1:(wb.alloc (.cells #[] 26)).heap.size=wb.heap.size+1:=by simp
 have B1:Blk ((wb.alloc (.cells #[] 26)).alloc (.cells #[.slice (some ⟨wb.heap.size,0,none⟩) 0 0] 93)) (wb.heap.size+1) 93 #[.slice (some ⟨wb.heap.size,0,none⟩) 0 0]:=by rw[←hs1];exact Blk.new _ _ _
 have hO1:=hO0.ext ((Ext.refl _).alloc (.cells #[.slice (some ⟨wb.heap.size,0,none⟩) 0 0] 93));obtain⟨wc,hwc⟩:∃wc,wc=(wb.alloc (.cells #[] 26)).alloc (.cells #[.slice (some ⟨wb.heap.size,0,none⟩) 0 0] 93):=⟨_,rfl⟩;rw[←hwc] at hE1 hb1 B1 hO1;have Hwc:=Lib.hid hwc;clear hwc hO0 hs1;have hmf:∀(fn:Fn) (first cap:Array Value) (w:World),(Instr.makeFunc fn first cap).run Tryz.prog w=.ok (.func fn first cap) w:=fun _ _ _ _=>rfl;go_enter Tryz.func213,Tryz.ntmps213;go_wp2_with fail;rw[←Hwb.out];rw[Hsz.out];rw[←Hwc.out];go_wp2_with (first | (go_at_call 94;refine (cG _ hE1).mono ?_;rintro e w1 ⟨rfl,hE2⟩;have hE12:=hE1.trans hE2;have hb2:=hb _ hE12) | (go_at_call 99;refine (cO _ hE12).mono ?_;rintro e w3 ⟨rfl,hE3⟩;have hE13:=hE12.trans hE3;have hb3:=hb _ hE13) | (at_make;refine bc7 slI rfl _ _ rfl _ _ l.length rfl rfl (by omega) (Ext.refl _) ?_;intro w4 hO4 hE4));obtain⟨w5,h5⟩:∃x,x=w4.alloc (.cells #[.slice (some ⟨w3.heap.size,0,none⟩) l.length l.length] 26):=⟨_,rfl⟩;obtain⟨w6,h6⟩:∃x,x=w5.alloc (.cells #[.func (.func 298) #[] #[.pointer (some ⟨w4.heap.size,0,none⟩),.pointer (some ⟨w.heap.size,0,none⟩),.pointer (some ⟨w4.heap.size+1,0,none⟩),.pointer (some ⟨wb.heap.size+1,0,none⟩)]] 158):=⟨_,rfl⟩;rw[←h5,←h6];have s5:w5.heap.size=w4.heap.size+1:=by rw[h5];simp
 have e45:Ext w4 w5:=by rw[h5];exact (Ext.refl _).alloc _
 have e56:Ext w5 w6:=by rw[h6];exact (Ext.refl _).alloc _
 have B4:=do9 hO4 (by simp);have B5:Blk w5 w4.heap.size 26 #[.slice (some ⟨w3.heap.size,0,none⟩) l.length l.length]:=by rw[h5];exact Blk.new _ _ _
 have B6:Blk w6 (w4.heap.size+1) 158 #[.func (.func 298) #[] #[.pointer (some ⟨w4.heap.size,0,none⟩),.pointer (some ⟨w.heap.size,0,none⟩),.pointer (some ⟨w4.heap.size+1,0,none⟩),.pointer (some ⟨wb.heap.size+1,0,none⟩)]]:=by rw[h6,←s5];exact Blk.new _ _ _
 have z3:=hE13.size;have z13:=(hE2.trans hE3).size;have z4:=B4.lt;have z1:=B1.lt;have e46:=e45.trans e56;have eW6:=hE13.trans (hE4.trans e46);clear h5 h6
 have cT:=d86 _ l Hgr wb w4.heap.size w.heap.size (w4.heap.size+1) (wb.heap.size+1) w3.heap.size hb (fun W hW=>hg W hW) (by omega) (by omega) (by omega) (by omega) (by omega) (by omega) (by omega)
  l.length [] 0 w6 (by simp) (by simp) (by have:=Hle.out;omega)
  ⟨eW6,B5.ext e56,B6,_,B1.ext ((hE2.trans hE3).trans (hE4.trans e46)),hO1.ext ((hE2.trans hE3).trans (hE4.trans e46)),fun g hg=>by have:=(hO1.blk g hg).2;omega⟩ ((dp8 B4).ext e46)
 rw[Nat.zero_add] at cT;refine Calls.mono cT ?_;rintro e w7 ⟨rfl,-,hS⟩;obtain⟨s1,-,-,vo,s4,s5',-⟩:=hS;obtain⟨aoO,cO2,rfl,-⟩:=s5'.shape;have k7:=s4.cell (i:=0) (v:=.slice aoO (J2 l l.length []) cO2) rfl;obtain⟨A,hA⟩:∃A,A=J2 l l.length []:=⟨_,rfl⟩;rw[←hA] at k7 s5';have HA:=Lib.hid hA;clear hA cT;go_wp2_with fail;exact bodyPost_ret (v:=.tuple #[.slice aoO A cO2,.bool true]) (by simp[results,Tryz.results213,go_sem]) rfl ⟨_,rfl,by rw[←HA.out];exact s5'.mono hE0,hE0.trans s1⟩
theorem bf5(v:Value)(l:List Int)(w:World)(h:c8 w v l) :
 Calls Tryz.prog 103 #[.agg #[v]] w fun e w'=>e=.returned (.int .i64 (if auB l then (J2 l l.length []:Int) else -1))∧Ext w w':=by
 obtain⟨wb,Hwb,hE0,hb,hg,hE,Hsz⟩:=j60 28 h;clear h;have hbx:=hb _ hE;cases hn:auB l
 · have cA:=bp9 v l wb (hg _ hE) hn;clear hn;go_enter Tryz.func103,Tryz.ntmps103;go_wp2_with fail;rw[←Hwb.out];go_wp2_with (go_at_call 213;refine cA.mono ?_;rintro e w3 ⟨v3,rfl,hE3⟩);go_ret;exact⟨rfl,hE0.trans hE3⟩
 · have cA:=bp1 v l wb (hg _ hE) hn;have Hle:Hid (J2 l l.length []≤729):=Lib.hid (by
    have hh:c9 l=true∧ord l≤9:=(by unfold auB at hn;simpa using hn);exact Nat.le_trans (cb1 l _ _) (c42 hh.2 (C0 hh.1)))
   clear hn;obtain⟨A,hA⟩:∃A,A=J2 l l.length []:=⟨_,rfl⟩;rw[←hA] at cA ⊢;clear hA;go_enter Tryz.func103,Tryz.ntmps103;go_wp2_with fail;rw[←Hwb.out];go_wp2_with (go_at_call 213;refine cA.mono ?_;rintro e w3 ⟨v3,rfl,hO3,hE3⟩;obtain⟨ao3,c3,rfl,-⟩:=hO3.shape);go_ret;exact⟨rfl,hE0.trans hE3⟩
end Go.Zz
namespace Go.Zz
open Go.RowKit Go.Proofs
set_option maxHeartbeats 1000000
set_option maxRecDepth 20000
theorem Z4(v:Value)(l:List Int)(a:Int)(w:World)(h:c8 w v l) :
 Calls Tryz.prog 303 #[.agg #[v],.int .i64 a] w fun e w'=>∃u,e=.returned u∧Own 3 w w' u (J7 l a)∧Ext w w':=by
 obtain⟨wb,Hwb,hE0,hb,hg,hE,Hsz⟩:=j60 28 h;clear h;obtain⟨wc,hwc⟩:∃wc,wc=wb.alloc (.cells #[] 3):=⟨_,rfl⟩;have hO:Own 3 wb wc (.slice (some ⟨wb.heap.size,0,none⟩) 0 0) []:=by rw[hwc];exact q5 (by omega) hE [] rfl
 replace hE:Ext wb wc:=by rw[hwc];exact hE.alloc _
 have Hsz2:Hid (wb.heap.size+1=wc.heap.size):=Lib.hid (by rw[hwc];simp[go_sem]);have Hwc:=Lib.hid hwc;clear hwc;cases hs:d8 l a
 · have Hs:=Lib.hid (bw9 (I5 hs));go_enter Tryz.func303,Tryz.ntmps303;go_wp2_with fail;rw[←Hwb.out,←Hwc.out];rw[Hsz.out];try rw[Hsz2.out]
   go_wp2_with (first | (go_at_call 105;refine Calls.mono (o7 _ _ _ _ (hg _ xq) hs) ?_;rintro e w' ⟨rfl,hE'⟩;replace hO:=hO.ext (Ext.trans xq hE');replace hE:=hE.trans (Ext.trans xq hE');clear hE'));go_ret;exact⟨_,rfl,by rw[Hs.out];exact hO.mono hE0,hE0.trans hE⟩
 · obtain⟨n,rfl,h1,h2,hgr⟩:=m3 hs;by_cases h0:n=0
   · subst h0;have Hs:=Lib.hid (bw9 (F4 l));go_enter Tryz.func303,Tryz.ntmps303;go_wp2_with fail;rw[←Hwb.out,←Hwc.out];rw[Hsz.out];try rw[Hsz2.out]
     go_wp2_with (first | (go_at_call 105;refine Calls.mono (o7 _ _ _ _ (hg _ xq) hs) ?_;rintro e w' ⟨rfl,hE'⟩;replace hO:=hO.ext (Ext.trans xq hE');replace hE:=hE.trans (Ext.trans xq hE');clear hE'));go_ret;exact⟨_,rfl,by have:=Hs.out;rw[show ((0:Nat):Int)=0 from rfl,this];exact hO.mono hE0,hE0.trans hE⟩
   · have Hs:=Lib.hid (cq5 (J5 hs (by omega)));have h0':((n:Int) == 0)=false:=(by simp;omega);have Hgr:=Lib.hid hgr;have hob:=l8 hgr;have hcn:=p7 n;clear hgr h0;go_enter Tryz.func303,Tryz.ntmps303;go_wp2_with fail;rw[←Hwb.out,←Hwc.out];rw[Hsz.out];try rw[Hsz2.out]
     go_wp2_with (first | (go_at_call 105;refine Calls.mono (o7 _ _ _ _ (hg _ xq) hs) ?_;rintro e w' ⟨rfl,hE'⟩;replace hO:=hO.ext (Ext.trans xq hE');replace hE:=hE.trans (Ext.trans xq hE');clear hE') | (go_at_call 99;refine (m9 _ _ _ (hg _ hE) Hgr).mono ?_;rintro e w' ⟨rfl,hE'⟩;replace hO:=hO.ext hE';replace hE:=hE.trans hE';clear hE'));clear hs h0';go_loopw [5,21] (fun u x wr=>∃k:Nat,k≤ord l∧x=.int .i64 k∧Own 3 wb wr u (d6 (T4 l n k))∧Ext wb wr) (fun _ x _=>ord l - (intOf x).toNat);(case atStart=>exact⟨0,by omega,rfl,hO,hE⟩);case round =>
      clear hE hO;obtain⟨k,hk,rfl,hO,hE⟩:=hrel;by_cases hlt:k<ord l
      · have hln:(d6 (T4 l n k)).length≤24:=(by rw[j8];have:=cg0 l n k;omega);go_wp2_with (first | (go_at_call 214;refine (I9 n h2 _).mono ?_;rintro e w1 ⟨v1,rfl,hL,hE1⟩;obtain⟨aoL,cL,adrL,rfl,hadrL,hcellL⟩:=hL.ints.nats;have hixL:=j6 (c:=cL) elI szI hadrL;clear hadrL));replace hO:=hO.ext hE1;replace hE:=hE.trans hE1;have hall:∀y∈j1 n,y<24:=fun y hy=>G7 hy;have hlen:=C9 n;have Hdb:Hid (c62 l n k=bd7 l n k (j1 n)):=Lib.hid rfl;clear hL hE1;generalize j1 n=L at hcellL hixL hall hlen Hdb ⊢;have hEw:=Ext.refl w1;go_loopw [5,27] (fun u i wq=>∃j:Nat,j≤L.length∧i=.int .i64 j∧(∀q,q<j→G8 l (d5 L q) k (cnt n)≠n)∧Own 3 wb wq u (d6 (T4 l n k))∧Ext w1 wq) (fun _ i _=>L.length - (intOf i).toNat);(case atStart=>exact⟨0,by omega,rfl,by omega,hO,hEw⟩);case round =>
         clear hO hEw;obtain⟨j,hj,rfl,hno,hO,hEw⟩:=hrel;have Hno:=Lib.hid hno;clear hno;have hEb:=hE.trans hEw;have hbx:=b48 (hb _ hEb);by_cases hlt2:j<L.length
         · have hck:=hcellL j _ hlt2 hEw;have hx24:=hall _ (o6 hlt2);have hpb:=X7 Hgr.out hx24 k (cnt n);by_cases hq:G8 l (d5 L j) k (cnt n)=n
           · have Hn:=Lib.hid (cg3 (by rw[Hdb.out];exact cq7 hlt2 hq));have hqi:((G8 l (d5 L j) k (cnt n):Int) == (n:Int))=true:=(by rw[hq];simp);clear hq;clear hE;have hE:=Ext.refl wr;go_wp2_with fail;(refine d0 (wr) (by kernel_rfl) (by kernel_rfl) hE ?_);(repeat (go_big_quiet_step (first | (go_at_call 107;exact Calls.lat_same (E0 _ h2 _)) | (go_at_call 348;exact Calls.lat (b34 _ _ _ _ _ _ (hg _ (hEb.trans (b9 wr _))) Hgr hx24 (by omega) hcn)))));(refine wpQuiet_nil ?_);(intro W hE');(replace hE:=l7 hE');(clear hE');replace hO:=hO.ext hE;replace hEb:=hEb.trans hE;replace hEw:=hEw.trans hE;go_wp2_with (at_builtin;refine K4 slI rfl _ _ rfl wb _ _ _ _ hO hEb (by omega) rfl rfl ?_;intro v1 w1 hO1 hE1);go_roundw;(case rel=>exact⟨k+1,by omega,by go_num,by rw[Hn.out];simpa[J3] using hO1,hE1⟩);case measure=>(simp[intOf];omega)
           · have hqi:((G8 l (d5 L j) k (cnt n):Int) == (n:Int))=false:=(by simp;omega);have Hq:=Lib.hid hq;clear hq;clear hE;have hE:=Ext.refl wr;go_wp2_with fail;(refine d0 (wr) (by kernel_rfl) (by kernel_rfl) hE ?_);(repeat (go_big_quiet_step (first | (go_at_call 107;exact Calls.lat_same (E0 _ h2 _)) | (go_at_call 348;exact Calls.lat (b34 _ _ _ _ _ _ (hg _ (hEb.trans (b9 wr _))) Hgr hx24 (by omega) hcn)))));(refine wpQuiet_nil ?_);(intro W hE');(replace hE:=l7 hE');(clear hE');replace hO:=hO.ext hE;replace hEb:=hEb.trans hE;replace hEw:=hEw.trans hE;go_wp2_with fail;go_roundw;(case rel=>exact⟨j+1,by omega,by go_num,fun q hq=>by by_cases e:q=j;(subst e;exact Hq.out);exact Hno.out q (by omega),hO,hEw⟩);case measure=>(simp[intOf];omega)
         · have hjl:j=L.length:=(by omega);subst hjl;have Hn:=Lib.hid (cq6 (by rw[Hdb.out];exact c63 Hno.out));go_wp2_with fail;go_roundw;(case rel=>exact⟨k+1,by omega,by go_num,by rw[Hn.out];exact hO,hEb⟩);case measure=>(simp[intOf];omega)
      · have hkl:k=ord l:=(by omega);subst hkl;go_wp2_with fail;go_ret;exact⟨_,rfl,by rw[Hs.out];exact hO.mono hE0,hE0.trans hE⟩
end Go.Zz
namespace Go.Zz
open Go.RowKit Go.Proofs
set_option maxHeartbeats 1000000
set_option maxRecDepth 20000
theorem X9(v:Value)(l:List Int)(a:Int)(w:World)(h:c8 w v l) :
 Calls Tryz.prog 284 #[.agg #[v],.int .i64 a] w fun e w'=>∃u,e=.returned u∧Own 3 w w' u (J7 l a)∧Ext w w':=by
 obtain⟨wb,Hwb,hE0,hb,hg,hE,Hsz⟩:=j60 28 h;clear h;obtain⟨wc,hwc⟩:∃wc,wc=wb.alloc (.cells #[] 3):=⟨_,rfl⟩;have hO:Own 3 wb wc (.slice (some ⟨wb.heap.size,0,none⟩) 0 0) []:=by rw[hwc];exact q5 (by omega) hE [] rfl
 have hBk:Blk wc wb.heap.size 3 #[]:=by rw[hwc];exact Blk.new _ _ _
 replace hE:Ext wb wc:=by rw[hwc];exact hE.alloc _
 have hEc:=Ext.refl wc;have Hsz2:Hid (wb.heap.size+1=wc.heap.size):=Lib.hid (by rw[hwc];simp[go_sem]);have Hwc:=Lib.hid hwc;clear hwc;cases hs:d8 l a
 · have Hs:=Lib.hid (bw9 (I5 hs));go_enter Tryz.func284,Tryz.ntmps284;go_wp2_with fail;rw[←Hwb.out,←Hwc.out];rw[Hsz.out];try rw[Hsz2.out]
   go_wp2_with (first | (go_at_call 46;refine Calls.mono (l5 _ _ _ _ (hg _ xq) hs) ?_;rintro e w' ⟨rfl,hE'⟩;replace hO:=hO.ext (Ext.trans xq hE');replace hE:=hE.trans (Ext.trans xq hE');clear hE'));go_ret;exact⟨_,rfl,by rw[Hs.out];exact hO.mono hE0,hE0.trans hE⟩
 · obtain⟨n,rfl,h1,h2,hgr⟩:=m3 hs;by_cases h0:n=0
   · subst h0;have Hs:=Lib.hid (bw9 (F4 l));go_enter Tryz.func284,Tryz.ntmps284;go_wp2_with fail;rw[←Hwb.out,←Hwc.out];rw[Hsz.out];try rw[Hsz2.out]
     go_wp2_with (first | (go_at_call 46;refine Calls.mono (l5 _ _ _ _ (hg _ xq) hs) ?_;rintro e w' ⟨rfl,hE'⟩;replace hO:=hO.ext (Ext.trans xq hE');replace hE:=hE.trans (Ext.trans xq hE');clear hE'));go_ret;exact⟨_,rfl,by have:=Hs.out;rw[show ((0:Nat):Int)=0 from rfl,this];exact hO.mono hE0,hE0.trans hE⟩
   · have Hs:=Lib.hid (cq5 (J5 hs (by omega)));have h0':((n:Int) == 0)=false:=(by simp;omega);have Hgr:=Lib.hid hgr;have hob:=l8 hgr;have hcn:=p7 n;clear hgr h0;go_enter Tryz.func284,Tryz.ntmps284;go_wp2_with fail;rw[←Hwb.out,←Hwc.out];rw[Hsz.out];try rw[Hsz2.out]
     go_wp2_with (first | (go_at_call 46;refine Calls.mono (l5 _ _ _ _ (hg _ xq) hs) ?_;rintro e w' ⟨rfl,hE'⟩;replace hEc:=hEc.trans (Ext.trans xq hE');replace hE:=hE.trans (Ext.trans xq hE');clear hE') | (go_at_call 66;refine (o9 _ h2 _).mono ?_;rintro e w' ⟨rfl,rfl⟩) | (go_at_call 165;refine (L8 n h2 _).mono ?_;rintro e w1 ⟨v1,rfl,hL,hE1⟩;obtain⟨aoL,cL,adrL,rfl,hadrL,hcellL⟩:=hL.ints.nats;have hixL:=j6 (c:=cL) elI szI hadrL;clear hadrL));replace hO:=N0.start w1 hBk (hEc.trans hE1);replace hE:=hE.trans hE1;have hb1:∀W,Ext w1 W→W.cell? ⟨w.heap.size,0,none⟩=some v:=fun W hW=>hb W (hE.trans hW);have hg1:∀W,Ext w1 W→c8 W v l:=fun W hW=>hg W (hE.trans hW);have hEb1:=hE;clear hs h0' hL hE1 hE hBk hEc;have hall:∀y∈j1 n,y<24:=fun y hy=>G7 hy;have hlen:=C9 n;have Hdb:Hid (∀k,c62 l n k=bd7 l n k (j1 n)):=Lib.hid (fun _=>rfl);generalize j1 n=L at hcellL hixL hall hlen Hdb ⊢;have hE:=Ext.refl w1;go_loopw [5,8] (fun u x wr=>∃k:Nat,k≤ord l∧x=.int .i64 k∧N0 3 wb w1 wr u (d6 (T4 l n k))∧Ext w1 wr) (fun _ x _=>ord l - (intOf x).toNat);(case atStart=>exact⟨0,by omega,rfl,hO,hE⟩);case round =>
      clear hE hO;obtain⟨k,hk,rfl,hO,hE⟩:=hrel;by_cases hlt:k<ord l
      · have hln:(d6 (T4 l n k)).length≤24:=(by rw[j8];have:=cg0 l n k;omega);have hbx:=hb1 _ hE;go_wp2_with (first | (go_at_call 43;refine (m4 _ _ _ (hg1 _ hE) Hgr).mono ?_;rintro e w' ⟨rfl,hE'⟩;replace hO:=hO.ext hE';replace hE:=hE.trans hE';clear hE'));clear hbx;go_loopw [9,10] (fun fv i wq=>∃(j:Nat) (f:Bool),j≤L.length∧i=.int .i64 j∧fv=.bool f∧(f=true→bd7 l n k L=true)∧(f=false→∀q,q<j→G8 l (d5 L q) k (cnt n)≠n)∧N0 3 wb w1 wq u5 (d6 (T4 l n k))∧Ext w1 wq) (fun fv i _=>L.length - (intOf i).toNat);(case atStart=>exact⟨0,false,by omega,rfl,rfl,by simp,by omega,hO,hE⟩);case round =>
         clear hO hE;obtain⟨j,f,hj,rfl,rfl,hyes,hno,hO,hE⟩:=hrel;have Hyes:=Lib.hid hyes;have Hno:=Lib.hid hno;clear hyes hno;cases f
         · by_cases hlt2:j<L.length
           · have hx24:=hall _ (o6 hlt2);have hpb:=X7 Hgr.out hx24 k (cnt n);by_cases hq:G8 l (d5 L j) k (cnt n)=n
             · have Hat:=Lib.hid (cq7 hlt2 hq);have hqi:((G8 l (d5 L j) k (cnt n):Int) == (n:Int))=true:=(by rw[hq];simp);clear hq;have hck:=fun U=>hcellL j _ hlt2 (hE.trans (b9 wr U));have hbx:=b48 (hb1 _ hE);have hgW:∀W,Ext wr W→c8 W v l:=fun W hW=>hg1 W (hE.trans hW);have hE1:=hE;clear hE;have hE:=Ext.refl wr;go_wp2_with fail;(refine d0 (wr) (by kernel_rfl) (by kernel_rfl) hE ?_);(repeat (go_big_quiet_step (first | (go_at_call 333;exact Calls.lat (X5 _ _ _ _ _ _ (hgW _ (b9 wr _)) Hgr hx24 (by omega) hcn)))));(refine wpQuiet_nil ?_);(intro W hE');(replace hE:=l7 hE');(clear hE');replace hO:=hO.ext hE;replace hE:=hE1.trans hE;go_wp2_with fail;go_roundw;(case rel=>exact⟨j+1,true,by omega,by go_num,rfl,fun _=>Hat.out,by simp,hO,hE⟩);case measure=>(simp[intOf];omega)
             · have hqi:((G8 l (d5 L j) k (cnt n):Int) == (n:Int))=false:=(by simp;omega);have Hq:=Lib.hid hq;clear hq;have hck:=fun U=>hcellL j _ hlt2 (hE.trans (b9 wr U));have hbx:=b48 (hb1 _ hE);have hgW:∀W,Ext wr W→c8 W v l:=fun W hW=>hg1 W (hE.trans hW);have hE1:=hE;clear hE;have hE:=Ext.refl wr;go_wp2_with fail;(refine d0 (wr) (by kernel_rfl) (by kernel_rfl) hE ?_);(repeat (go_big_quiet_step (first | (go_at_call 333;exact Calls.lat (X5 _ _ _ _ _ _ (hgW _ (b9 wr _)) Hgr hx24 (by omega) hcn)))));(refine wpQuiet_nil ?_);(intro W hE');(replace hE:=l7 hE');(clear hE');replace hO:=hO.ext hE;replace hE:=hE1.trans hE;go_wp2_with fail;go_roundw;(case rel=>exact⟨j+1,false,by omega,by go_num,rfl,by simp,fun _ q hq=>by by_cases e:q=j;(subst e;exact Hq.out);exact Hno.out (by simp) q (by omega),hO,hE⟩);case measure=>(simp[intOf];omega)
           · have hjl:j=L.length:=(by omega);subst hjl;have Hn:=Lib.hid (cq6 (by rw[Hdb.out];exact c63 (Hno.out rfl)));go_wp2_with fail;go_roundw;(case rel=>exact⟨k+1,by omega,by go_num,by rw[Hn.out];exact hO,hE⟩);case measure=>(simp[intOf];omega)
         · have Hn:=Lib.hid (cg3 (by rw[Hdb.out];exact Hyes.out rfl));by_cases hlt2:j<L.length
           all_goals
            go_wp2_with (at_builtin;refine d33 slI rfl _ _ rfl wb w1 _ _ _ _ hO hE (by omega) rfl rfl ?_;intro v1 w1' hO1 hE1)
            go_roundw
            case rel=>exact⟨k+1,by omega,by go_num,by rw[Hn.out,J3];exact Or.inr hO1,hE1⟩
            case measure=>(simp[intOf];omega)
      · have hkl:k=ord l:=(by omega);subst hkl;have hbx:=hb1 _ hE;go_wp2_with (first | (go_at_call 43;refine (m4 _ _ _ (hg1 _ hE) Hgr).mono ?_;rintro e w' ⟨rfl,hE'⟩;replace hO:=hO.ext hE';replace hE:=hE.trans hE';clear hE'));go_ret;exact⟨_,rfl,by rw[Hs.out];exact (hO.own hEb1).mono hE0,hE0.trans (hEb1.trans hE)⟩
end Go.Zz
