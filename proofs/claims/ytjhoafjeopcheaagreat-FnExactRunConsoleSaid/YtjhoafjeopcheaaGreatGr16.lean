/- Davenport's bound: the reference. -/
import Derived.Test.YtjhoafjeopcheaaGreatGr15
set_option linter.all false
set_option maxHeartbeats 8000000
set_option maxRecDepth 100000
namespace Go.Zz
open Go.RowKit Go.Proofs
variable(v:Value)(l:LI)(I:LN)(x n:Nat)(f:Nat->Nat)(P:LN)(vF:Value)(w:World){F:LN}{m k:Nat}
theorem cd0(h:c8 w v l)(R:Hid (d7 l=true)):Calls Tryz.prog 105 #[.agg #[v]] w (RE w (vi (W3 dvT (S9 l):Nat))):=by
 obtain⟨B,Z,F,C,H,E,Hz⟩:=m04 42 h;clear h;have hH:=C B E;obtain⟨r,N⟩:∃M,S9 l=M:=⟨_,rfl⟩;have Hl:Hid (l=b9 r):=zh (by rw[<-N];exact(dj1 R.o).symm);have Hk:Hid (bm2 dvT r=true):=zh (by rw[<-N];exact je6 R.o);have aa:r.length<=3:=by rw[<-N];simpa[S9]using E5 R.o
 rw[N];clear N;go_in;go_wp2_with fail;rw[<-Z.o];go_wp2_with(first|(go_at_call 52;refine cm (C4 _ _ _ (H _ E)) fun G z=>?_;have hJ:=C _ ((E.trans z).alloc (.cells #[] 3));have hh:=H _ (E.trans z);have Y:=R.o;have ad:=E5 Y;have hN:=l9 (TI:=3) (n:=0) om (er G) [] rfl;have hu:=(er G).alloc (.cells #[] 3);have hY:=hh.ext hu)|(at_builtin;refine F7 slI rfl _ _ rfl G _ _ _ _ _ hN hY hu (by simp only[oI];omega) rfl rfl ?_;intro v2 w2 O I;simp only[pq]at O;obtain⟨A,c,rfl,-⟩:=O.shape));have ht:l.length=r.length:=by rw[Hl.o,d9]
 have hx:Dv G A r.length c r w2:=⟨by rw[<-ht,<-Hl.o];exact O,rfl,I⟩;rw[ht];have hR:=F.trans (E.trans z);clear O hJ hh C H hH Y;go_wp2_with fail;clear E z I;go_loopw [4] (fun y wr=>∃i:Nat,i<=r.length/\y=vi i/\Dv G A r.length c (T9 dvT r.length r i) wr) (fun y _=>r.length-(intOf y).toNat);exact⟨0,om,rfl,hx⟩
 clear hx;rename World=>wo;obtain⟨i,hi,rfl,D⟩:=hrel;by_cases U:i<r.length
 . have hI:(i:Int)<(r.length:Int):=om;have Ha:=zh (fun m (hm:m<r.length-i)=>du0 Hk.o U hm);go_wp2_with fail;go_loopw [5] (fun kv wr=>∃m k:Nat,k=i+1+m/\k<=r.length/\kv=vi k/\Dv G A r.length c (bh7 dvT i (T9 dvT r.length r i) m) wr) (fun kv _=>r.length-(intOf kv).toNat);exact⟨0,i+1,rfl,om,zg,D⟩;case round =>
    clear D;rename World=>wr;obtain⟨m,k,hv,V,rfl,K⟩:=hrel;have X:=zh hv;have ah:i<k:=om;clear hv;by_cases L:k<r.length
    . have hV:(k:Int)<(r.length:Int):=om;obtain⟨s,J⟩:=Ha.o m (by have:=X.o;omega);have x:Hid (bh7 dvT i (T9 dvT r.length r i) (m+1)=dvT (bh7 dvT i (T9 dvT r.length r i) m) i k):=zh (by rw[X.o];rfl);obtain⟨M,f⟩:=nq (bh7 dvT i (T9 dvT r.length r i) m);rw[<-f]at K s J x;clear f;have hP:=J i U;have hp:=J k L;obtain⟨g,rfl⟩:=K.at U;have hL:=bd6 g r.length c;have hc:=K.drew;obtain⟨ci,-,hr⟩:=hc.cell U;have ck:=(hc.cell L).1;replace x:=zh (x.o.trans (show dvT M i k=(M.set i (Nat.gcd (d5 M i) (d5 M k))).set k (d5 M i/Nat.gcd (d5 M i) (d5 M k)*d5 M k)from rfl));obtain⟨a,ha⟩:=nq (d5 M i);obtain⟨b,C⟩:=nq (d5 M k);rw[<-ha]at ci hP x;rw[<-C]at ck hp x;have HA:=zh ha;have HB:=zh C;clear ha C;have hT:0<Nat.gcd a b:=qz _ om;have hX:Nat.gcd a b<=a:=Nat.gcd_le_left _ om;clear J;have cG:=c43 a b om om;obtain⟨t,hG⟩:=nq (Nat.gcd a b);rw[<-hG]at hT hX x;rw[<-hG]at cG;clear hG;go_wp2_with fail;refine wp_region_held_drew (S:=(fun W=>W.cell? (aD g i)=some (vi (a:Int))/\W.cell? (aD g k)=some (vi (b:Int)))) (by kernel_rfl) (by exact⟨ci,ck⟩) (fun he=>?_);refine hxn 0 ?_;refine hxn 1 ?_;refine hxn 2 ?_;refine hxn 3 ?_;refine hxn 4 ?_;refine hxn 5 ?_;refine hxn 6 ?_;refine hxn 7 ?_;refine hxt 8 (h:=fun KK hK=>?_);go_simp;(go_at_call 213;(with_reducible refine od (cG _) ?_);rintro e w3⟨rfl,hC⟩);have d:=hc.ext2 hC;have di:=(d.cell U).1;have dk:=(d.cell L).1;rw[<-HA.o]at di;rw[<-HB.o]at dk;refine hxo hK (by exact⟨di,dk⟩) (fun he=>?_);clear hK KK;refine hxn 9 ?_;refine wpAnyH_done (by kernel_rfl) ?_ _;go_wp2_with fail;have T:(a:Int)/(t:Int)*(b:Int)=((a/t*b:Nat):Int):=(by rw[oO,qa]);have u:a/t<=24:=nle (po _ _) om;have ho:a/t*b<=576:=pm u hp.2;have d2:((a/t:Nat):Int)=(a:Int)/(t:Int):=qa _ _;have af:0<=(a:Int)/(t:Int)/\(a:Int)/(t:Int)<=24:=⟨by rw[<-d2];exact pK _,by rw[<-d2];exact Int.ofNat_le.2 u⟩;have ag:0<=(a:Int)/(t:Int)*(b:Int)/\(a:Int)/(t:Int)*(b:Int)<=576:=⟨by rw[T];exact pK _,by rw[T];exact Int.ofNat_le.2 ho⟩;have ae:((t:Int) == 0)=false:=zso;have ab:0<(t:Int):=om;have hW:=d.set hr i t;have hA:Dv G (some (aD g 0)) r.length c ((M.set i t).set k (a/t*b)) ((w3.setCell (aD g i) (vi (t:Int))).setCell (aD g k) (vi ((a:Int)/(t:Int)*(b:Int)))):=(by rw[T];exact hW.set hr k _);rw[<-x.o]at hA;have cs:=(hW.cell L).1;have fi:=(d.cell U).2.1;have fk:=(d.cell L).2.1;have ei:=(d.drew.cell U).1;have ek:=(d.drew.cell L).1;rw[<-HA.o]at ei;rw[<-HB.o]at ek;have hZ:IntKind.i64.wrap ((a:Int)/(t:Int))=(a:Int)/(t:Int):=oD _ om;have ac:IntKind.i64.wrap ((a:Int)/(t:Int)*(b:Int))=(a:Int)/(t:Int)*(b:Int):=oD _ om;clear T d2 u ho ci ck;go_wp2_with fail;refine wp_region_held_drew (S:=(fun W=>W.cell? (aD g i)=some (vi (a:Int))/\W.cell? (aD g k)=some (vi (b:Int)))) (by kernel_rfl) (by exact⟨ei,ek⟩) (fun he=>?_);refine hxn 0 ?_;refine hxn 1 ?_;refine hxn 2 ?_;refine hxn 3 ?_;refine hxn 4 ?_;refine hxn 5 ?_;refine hxn 6 ?_;refine hxn 7 ?_;refine hxn 8 ?_;refine hxn 9 ?_;refine hxn 10 ?_;refine hxn 11 ?_;refine wpAnyH_done (by kernel_rfl) ?_ _;go_wp2_with fail;go_roundw;exact⟨m+1,k+1,by have:=X.o;omega,om,zg,hA.drew⟩;exact zm1
    . have hV:¬(k:Int)<(r.length:Int):=om;have Hm:Hid (m=r.length-(i+1)):=zh (by have:=X.o;omega);rw[Hm.o]at K;go_wp2_with fail;go_roundw;exact⟨i+1,om,zg,K⟩;exact zm1
 have hn:i=r.length:=om;have hI:¬(i:Int)<(r.length:Int):=om;rw[hn]at D hI|-;clear hn hi;obtain⟨s,J⟩:=cf6 Hk.o;obtain⟨M,f⟩:=nq (T9 dvT r.length r r.length);have Hd:Hid (W3 dvT r=b36 M r.length):=zh (by rw[f];rfl);rw[<-f]at D s J;clear f;have Hc:=zh (c78 M (by rw[s];exact J));have Hb:=zh J;clear J;go_wp2_with fail;go_loop [8,9] (fun sv jv=>∃j:Nat,j<=r.length/\jv=vi j/\sv=vi (b36 M j:Nat)) (fun _ jv=>r.length-(intOf jv).toNat);exact⟨0,om,rfl,rfl⟩;case round =>
  obtain⟨j,hj,rfl,rfl⟩:=hrel;by_cases p:j<r.length
  . have hz:(j:Int)<(r.length:Int):=om;obtain⟨g,rfl⟩:=D.at p;have hL:=bd6 g r.length c;have cj:=(D.cell p).1;have hs:=Hc.o j om;have hU:=Hb.o j p;have q:Hid (b36 M (j+1)=b36 M j+d5 M j-1):=zh rfl;obtain⟨S,hS⟩:=nq (b36 M j);obtain⟨a,ha⟩:=nq (d5 M j);rw[<-hS]at hs q|-;rw[<-ha]at cj hU q;clear hS ha;go_wp2_with fail;go_round;exact⟨j+1,om,zg,by rw[q.o];go_num⟩;exact zm1
  . have hB:j=r.length:=om;have hz:¬(j:Int)<(r.length:Int):=om;rw[hB]at hz|-;clear hB hj p;go_wp2_with fail;go_ret;exact⟨o3 (by rw[Hd.o]),hR.trans D.ext⟩
def Q3(f:Nat->Nat)(P:LN)(k:Nat):LN:=(List.range k).foldl (fun L j=>Q5 L (f j)) P
theorem jl4:Q3 f P 0=P:=rfl
theorem ba8(k:Nat):Q3 f P (k+1)=Q5 (Q3 f P k) (f k):=by unfold Q3;rw[oW,oH];rfl
theorem b93(f:Nat->Nat)(P:LN):∀k,(Q3 f P k).length<=P.length+k
 |0=>oc _
 |k+1=>by rw[ba8];have:=b93 f P k;have:=j18 (Q3 f P k) (f k);omega
theorem X6{f:Nat->Nat}{P:LN}{x:Nat}:∀{k},x∈Q3 f P k↔x∈P\/∃j,j<k/\x=f j
 |0=>by simp[jl4]
 | k+1=>by
  rw[ba8,cy1,X6]
  constructor
  . rintro (h|h|⟨j,H,e⟩)
    . exact Or.inr ⟨k,om,h⟩
    . exact Or.inl h
    . exact Or.inr ⟨j,om,e⟩
  . rintro (h|⟨j,H,e⟩)
    . exact Or.inr (Or.inl h)
    . by_cases J:j=k
      . subst J;exact Or.inl e
      . exact Or.inr (Or.inr ⟨j,om,e⟩)
def bo7(l:LI)(k:Nat):LN:=Q3 (fun x=>genF l (2^x)) [] k
def Y6(l:LI)(C:LN):Nat->LN
 |0=>[]
 |k+1=>Q3 (fun j=>j7 l (d5 C k) (d5 C j)) (Y6 l C k) (k+1)
theorem cj0(l:LI)(C:LN):∀k,(Y6 l C k).length<=k*k
 |0=>oc _
 |k+1=>by
  have o:=cj0 l C k
  have r:=b93 (fun j=>j7 l (d5 C k) (d5 C j)) (Y6 l C k) (k+1)
  show(Q3 _ _ _).length<=_
  have e:(k+1)*(k+1)=k*k+k+k+1:=by rw[Nat.add_mul,Nat.mul_add];omega
  omega
def Y7(l:LI)(T C:LN):Nat->LN
 |0=>T
 |k+1=>Q3 (fun j=>j7 l (d5 T k) (d5 C j)) (Y7 l T C k) C.length
theorem cm0(l:LI)(T C:LN):∀k,(Y7 l T C k).length<=T.length+k*C.length
 |0=>by simp[Y7]
 |k+1=>by
  have o:=cm0 l T C k
  have r:=b93 (fun j=>j7 l (d5 T k) (d5 C j)) (Y7 l T C k) C.length
  show(Q3 _ _ _).length<=_
  rw[Nat.add_mul]
  omega
def b06(l:LI):LN:=bo7 l (ord l)
def be7(l:LI):LN:=Y6 l (b06 l) (b06 l).length
def sgL(l:LI):LN:=Y7 l (be7 l) (b06 l) (be7 l).length
theorem cv9{l:LI}(H:d7 l=true):(b06 l).length<=24:=by
 have:=b93 (fun x=>genF l (2^x)) [] (ord l);have:=l8 H;simp only[oI]at *;show(Q3 _ _ _).length<=_;omega
theorem j69{l:LI}(H:d7 l=true):(be7 l).length<=576:=by
 have o:=cj0 l (b06 l) (b06 l).length;have r:=cv9 H;exact nle o (pm r r)
theorem co9{l:LI}(H:d7 l=true):(sgL l).length<=14400:=by
 have o:=cm0 l (be7 l) (b06 l) (be7 l).length;have r:=cv9 H;have T:=j69 H;have h:(be7 l).length*(b06 l).length<=576*24:=pm T r;show(Y7 _ _ _ _).length<=_;omega
theorem ls0{l:LI}(H:d7 l=true){x:Nat}(h:x∈bo7 l k):x<2^ord l:=by
 rcases X6.1 h with h|⟨j,_,rfl⟩;cases h;exact ba9 H _
theorem j06{l:LI}(H:d7 l=true){C:LN}:∀{k x},x∈Y6 l C k->x<2^ord l
 |0,x,h=>by cases h
 |k+1,x,h=>by
  rcases X6.1 h with h|⟨j,_,rfl⟩
  . exact j06 H h
  . exact bg8 (m0 H) _ _
theorem lp7{l:LI}(H:d7 l=true):∀x∈be7 l,x<2^ord l:=fun _ h=>j06 H h
theorem jg8{l:LI}(H:d7 l=true){L:LN}(h:∀x∈L,x<2^ord l)(k:Nat):d5 L k<2^ord l:=by
 by_cases V:k<L.length;exact h _ (m7 V);have:d5 L k=0:=(by simp[d5,List.getD,V]);rw[this];exact qO _
theorem cz7(h:c8 w v l):Calls Tryz.prog 102 #[.agg #[v]] w fun e w'=>∃A L c,e=.returned (.tuple #[.slice A (List.length L) c,.bool (d7 l)])/\Own 3 w w' (.slice A (List.length L) c) (b9 L)/\L=(if d7 l then sgL l else [])/\Ext w w':=by
 obtain⟨B,Z,F,C,H,E,Hz⟩:=m04 42 h;clear h;have ai:=C B E;cases hs:d7 l
 . go_in;go_wp2_with fail;rw[<-Z.o];have hq:=(er B).alloc (.cells #[] 3);have O:=l9 (TI:=3) (n:=0) om F [] rfl;rw[<-Hz.o]at O;change Own _ _ (B.alloc (.cells #[] 3)) _ _ at O;refine(C4 _ _ _ (H _ hq)).mono ?_;rw[hs];rintro e G⟨rfl,z⟩;go_wp2_with fail;exact br (.tuple #[.slice (some (aD (w.heap.size+1) 0)) 0 0,.bool false]) ⟨_,[],_,rfl,O.ext z,rfl,F.trans (hq.trans z)⟩
 have av:=l8 hs;have R:=zh hs;have aa:=cv9 hs;have al:=j69 hs;go_in;go_wp2_with fail;rw[<-Z.o];have hq:=(er B).alloc (.cells #[] 3);have O:=l9 (TI:=3) (n:=0) om F [] rfl;rw[<-Hz.o]at O;change Own _ _ (B.alloc (.cells #[] 3)) _ _ at O;refine(C4 _ _ _ (H _ hq)).mono ?_;rw[hs];rintro e G⟨rfl,z⟩;replace O:=O.ext z;replace z:=hq.trans z;have hG:=l9 (TI:=3) (n:=0) om (F.trans z) [] rfl;change Own _ _ (G.alloc (.cells #[] 3)) _ _ at hG;have hB:=z.alloc (.cells #[] 3);have ar:=C _ hB;go_wp2_with fail;refine cm (o4 _ _ _ (H _ hB) R) fun w2 I=>?_;have hA:=hB.trans I;replace hG:=hG.ext I;replace O:=(O.alloc (.cells #[] 3)).ext I;have aj:=F.trans hA;replace C:=sh hA C;replace H:=sh hA H;clear z hB ar I ai E;go_wp2_with fail;go_loopw [5,7] (fun s5 s7 wr=>∃(k:Nat) (A:Option Addr) (c:Nat),k<=ord l/\s7=vi k/\s5=.slice A (bo7 l k).length c/\Own 3 w wr (.slice A (bo7 l k).length c) (b9 (bo7 l k))/\Ext w2 wr) (fun _ s7 _=>ord l-(intOf s7).toNat);exact⟨0,_,0,om,rfl,rfl,by simpa[bo7,Q3,b9]using hG,er _⟩;case round =>
  rename World=>wr;obtain⟨k,A,c,V,rfl,rfl,X,s⟩:=hrel;by_cases U:k<ord l
  . have hh:(k:Int)<(ord l:Int):=om;have q1:=o6 (n:=k) om;have hp:pw k<2^24:=oJ om (show k<24 by omega);have cG:=fun W (D:Ext wr W)=>bo9 v l (pw k) W (H W (s.trans D)) R hp;have ho:(bo7 l k).length<=24:=(by have:=b93 (fun x=>genF l (2^x)) [] k;simp at this;have e:(bo7 l k).length<=k:=this;omega);obtain⟨YY,J⟩:=nq (genF l (pw k));have Hn:Hid (bo7 l (k+1)=Q5 (bo7 l k) YY):=zh (by rw[J];exact ba8 _ _ _);obtain⟨P,f⟩:=nq (bo7 l k);rw[<-J]at cG;rw[<-f]at X ho Hn;rw[<-f];obtain⟨pk,ac⟩:∃x:Int,x=((pw k:Nat):Int):=⟨_,rfl⟩;rw[<-ac]at q1 cG;clear J f hp ac;have r:=sh s C;have hu:=aj.trans s;go_wp2_with fail;refine wp_region_held_drew (S:=(fun W=>Ext wr W/\W.cell? (aD w.heap.size 0)=some v)) (by kernel_rfl) (by exact⟨xq,r _ xq⟩) (fun he=>?_);refine hxn 0 ?_;refine hxn 1 ?_;refine hxn 2 ?_;refine hxn 3 ?_;refine hxt 4 (h:=fun y Y=>?_);go_simp;(go_at_call 212;(with_reducible refine od (cG _ xq) ?_);rintro e wx⟨rfl,hX⟩;have hH:=og (a:=wr) xq hX);refine hxo Y (by exact⟨xq,r _ xq⟩) (fun he=>?_);clear Y y;refine hxt 5 (h:=fun y Y=>?_);go_simp;(go_at_call 211;(with_reducible refine od (by5 _ P YY w _ (X.ext xq) (Ext.size (hu.trans xq)) om) ?_);rintro e wy⟨v4,rfl,b,hr⟩;obtain⟨a4,c4,rfl⟩:=b.nshape;have ht:=og (a:=wr) xq hr);rw[<-Hn.o]at b|-;refine hxo Y (by exact⟨xq,r _ xq⟩) (fun he=>?_);clear Y y;refine hxn 6 ?_;refine wpAnyH_done (by kernel_rfl) ?_ _;go_wp2_with fail;go_roundw;exact⟨k+1,a4,c4,om,zg,rfl,b,s.trans ht⟩;exact zm1
  . have ah:k=ord l:=om;subst ah;have hh:¬((ord l:Nat):Int)<(ord l:Int):=om;obtain⟨aw,cC,aC,ag,hZ,hU⟩:=(show Own 3 w wr (.slice A (b06 l).length c) (b9 (b06 l))from X).ints.nats;simp only[Value.slice.injEq]at ag;obtain⟨rfl,-,rfl⟩:=ag;have hD:∀q,d5 (b06 l) q<2^24:=fun q=>nlt (jg8 R.o (fun x K=>ls0 R.o K) q) (E7 R.o);have Ho:Hid (be7 l=Y6 l (b06 l) (b06 l).length):=zh rfl;have Hg:Hid (sgL l=Y7 l (be7 l) (b06 l) (be7 l).length):=zh rfl;rw[show bo7 l (ord l)=b06 l from rfl];obtain⟨p,hC⟩:=nq (b06 l);rw[<-hC]at hZ hU hD Ho Hg aa|-;have hJ:=j2 (c:=c) elI szI hZ;have Hl:=zh hU;replace C:=sh s C;replace H:=sh s H;have hM:=F.trans (hA.trans s);replace O:=O.ext s;clear X hZ hU hC s U V hh hs;go_wp2_with fail;go_loopw [4,8] (fun s4 s8 wq=>∃(i:Nat) (A:Option Addr) (c:Nat),i<=p.length/\s8=vi i/\s4=.slice A (Y6 l p i).length c/\Own 3 w wq (.slice A (Y6 l p i).length c) (b9 (Y6 l p i))/\Ext wr wq) (fun _ s8 _=>p.length-(intOf s8).toNat);exact⟨0,_,0,om,rfl,rfl,by simpa[Y6,b9]using O,er _⟩;case round =>
     rename World=>wq;obtain⟨i,A,c,hi,rfl,rfl,X,m⟩:=hrel;by_cases U:i<p.length
     . have hh:(i:Int)<(p.length:Int):=om;have ak:=cj0 l p i;have am:i*i<=576:=pm (show i<=24 by omega) (show i<=24 by omega);go_wp2_with fail;go_loopw [4,9] (fun s4 s9 wp=>∃(j:Nat) (A:Option Addr) (c:Nat),j<=i+1/\s9=vi j/\s4=.slice A (Q3 (fun j=>j7 l (d5 p i) (d5 p j)) (Y6 l p i) j).length c/\Own 3 w wp (.slice A (Q3 (fun j=>j7 l (d5 p i) (d5 p j)) (Y6 l p i) j).length c) (b9 (Q3 (fun j=>j7 l (d5 p i) (d5 p j)) (Y6 l p i) j))/\Ext wq wp) (fun _ s9 _=>i+1-(intOf s9).toNat);exact⟨0,A,c,om,rfl,rfl,X,er _⟩;case round =>
        rename World=>wp;obtain⟨j,A,c,hj,rfl,rfl,X,g⟩:=hrel;by_cases ab:j<i+1
        . have hR:(j:Int)<=(i:Int):=om;have au:j<p.length:=om;have d:=fun W (D:Ext wp W)=>Hl.o i W U (m.trans (g.trans D));have hc:=fun W (D:Ext wp W)=>Hl.o j W au (m.trans (g.trans D));have ap:=hJ i;have aq:=hJ j;have M:=fun W (D:Ext wp W)=>E6 v l (d5 p i) (d5 p j) W (H W (m.trans (g.trans D))) R (hD i) (hD j);have ho:=b93 (fun j=>j7 l (d5 p i) (d5 p j)) (Y6 l p i) j;have Hn:Hid (Q3 (fun j=>j7 l (d5 p i) (d5 p j)) (Y6 l p i) (j+1)=Q5 (Q3 (fun j=>j7 l (d5 p i) (d5 p j)) (Y6 l p i) j) (j7 l (d5 p i) (d5 p j))):=zh (ba8 _ _ _);have ax:(j:Int)<(p.length:Int):=om;obtain⟨YY,J⟩:=nq (j7 l (d5 p i) (d5 p j));obtain⟨P,f⟩:=nq (Q3 (fun j=>j7 l (d5 p i) (d5 p j)) (Y6 l p i) j);rw[<-f,<-J]at Hn;rw[<-f]at X ho|-;rw[<-J]at M;obtain⟨X1,hm⟩:=nq (d5 p i);obtain⟨X2,hn⟩:=nq (d5 p j);rw[<-hm]at d M;rw[<-hn]at hc M;clear J f hm hn;have r:=sh (m.trans g) C;have hu:=hM.trans (m.trans g);go_wp2_with fail;refine wp_region_held_drew (S:=(fun W=>Ext wp W/\W.cell? (aD w.heap.size 0)=some v/\W.cell? (aC i)=some (vi X1)/\W.cell? (aC j)=some (vi X2))) (by kernel_rfl) (by exact⟨xq,r _ xq,d _ xq,hc _ xq⟩) (fun he=>?_);refine hxn 0 ?_;refine hxn 1 ?_;refine hxn 2 ?_;refine hxn 3 ?_;refine hxn 4 ?_;refine hxn 5 ?_;refine hxn 6 ?_;refine hxn 7 ?_;refine hxn 8 ?_;refine hxn 9 ?_;refine hxt 10 (h:=fun y Y=>?_);go_simp;(go_at_call 145;(with_reducible refine od (M _ xq) ?_);rintro e wx⟨rfl,hX⟩;have hH:=og (a:=wp) xq hX);refine hxo Y (by exact⟨xq,r _ xq,d _ xq,hc _ xq⟩) (fun he=>?_);clear Y y;refine hxt 11 (h:=fun y Y=>?_);go_simp;(go_at_call 211;(with_reducible refine od (by5 _ P YY w _ (X.ext xq) (Ext.size (hu.trans xq)) om) ?_);rintro e wy⟨v4,rfl,b,hr⟩;obtain⟨a4,c4,rfl⟩:=b.nshape;have ht:=og (a:=wp) xq hr);rw[<-Hn.o]at b|-;refine hxo Y (by exact⟨xq,r _ xq,d _ xq,hc _ xq⟩) (fun he=>?_);clear Y y;refine hxn 12 ?_;refine wpAnyH_done (by kernel_rfl) ?_ _;go_wp2_with fail;go_roundw;exact⟨j+1,a4,c4,om,zg,rfl,b,g.trans ht⟩;exact zm1
        . have hV:j=i+1:=om;subst hV;have hR:¬((i+1:Nat):Int)<=(i:Int):=om;go_wp2_with fail;go_roundw;exact⟨i+1,A,c,om,zg,rfl,X,m.trans g⟩;exact zm1
     . have hL:i=p.length:=om;subst hL;have hh:¬((p.length:Nat):Int)<(p.length:Int):=om;rw[<-Ho.o]at X|-;obtain⟨ay,cT,aT,ae,hN,hO⟩:=X.ints.nats;simp only[Value.slice.injEq]at ae;obtain⟨rfl,-,rfl⟩:=ae;have af:∀q,d5 (be7 l) q<2^24:=fun q=>nlt (jg8 R.o (lp7 R.o) q) (E7 R.o);obtain⟨T,hT⟩:=nq (be7 l);rw[<-hT]at X hN hO af Hg al|-;have an:=j2 (c:=c) elI szI hN;have HT:=zh hO;replace Hl:Hid (∀i W,i<p.length->Ext wq W->W.cell? (aC i)=some (vi (d5 p i:Int))):=zh (fun i W hi D=>Hl.o i W hi (m.trans D));replace C:=sh m C;replace H:=sh m H;have ad:=hM.trans m;clear hN hO hT Ho hM;go_wp2_with fail;go_loopw [4,11] (fun s4 s8 wp=>∃(i:Nat) (A:Option Addr) (c:Nat),i<=T.length/\s8=vi i/\s4=.slice A (Y7 l T p i).length c/\Own 3 w wp (.slice A (Y7 l T p i).length c) (b9 (Y7 l T p i))/\Ext wq wp) (fun _ s8 _=>T.length-(intOf s8).toNat);exact⟨0,_,_,om,rfl,rfl,X,er _⟩;case round =>
        rename World=>wp;obtain⟨i,A,c,hi,rfl,rfl,X,g⟩:=hrel;by_cases U:i<T.length
        . have hh:(i:Int)<(T.length:Int):=om;have ak:=cm0 l T p i;have am:i*p.length<=13824:=pm (show i<=576 by omega) aa;go_wp2_with fail;go_loopw [4,12] (fun s4 s9 N=>∃(j:Nat) (A:Option Addr) (c:Nat),j<=p.length/\s9=vi j/\s4=.slice A (Q3 (fun j=>j7 l (d5 T i) (d5 p j)) (Y7 l T p i) j).length c/\Own 3 w N (.slice A (Q3 (fun j=>j7 l (d5 T i) (d5 p j)) (Y7 l T p i) j).length c) (b9 (Q3 (fun j=>j7 l (d5 T i) (d5 p j)) (Y7 l T p i) j))/\Ext wp N) (fun _ s9 _=>p.length-(intOf s9).toNat);exact⟨0,A,c,om,rfl,rfl,X,er _⟩;case round =>
           rename World=>N;obtain⟨j,A,c,hj,rfl,rfl,X,hz⟩:=hrel;by_cases ab:j<p.length
           . have hR:(j:Int)<(p.length:Int):=om;have d:=fun W (D:Ext N W)=>HT.o i W U (g.trans (hz.trans D));have hc:=fun W (D:Ext N W)=>Hl.o j W ab (g.trans (hz.trans D));have ap:=an i;have aq:=hJ j;have M:=fun W (D:Ext N W)=>E6 v l (d5 T i) (d5 p j) W (H W (g.trans (hz.trans D))) R (af i) (hD j);have ho:=b93 (fun j=>j7 l (d5 T i) (d5 p j)) (Y7 l T p i) j;have Hn:Hid (Q3 (fun j=>j7 l (d5 T i) (d5 p j)) (Y7 l T p i) (j+1)=Q5 (Q3 (fun j=>j7 l (d5 T i) (d5 p j)) (Y7 l T p i) j) (j7 l (d5 T i) (d5 p j))):=zh (ba8 _ _ _);obtain⟨YY,J⟩:=nq (j7 l (d5 T i) (d5 p j));obtain⟨P,f⟩:=nq (Q3 (fun j=>j7 l (d5 T i) (d5 p j)) (Y7 l T p i) j);rw[<-f,<-J]at Hn;rw[<-f]at X ho|-;rw[<-J]at M;obtain⟨X1,hm⟩:=nq (d5 T i);obtain⟨X2,hn⟩:=nq (d5 p j);rw[<-hm]at d M;rw[<-hn]at hc M;clear J f hm hn;have r:=sh (g.trans hz) C;have hu:=ad.trans (g.trans hz);go_wp2_with fail;refine wp_region_held_drew (S:=(fun W=>Ext N W/\W.cell? (aD w.heap.size 0)=some v/\W.cell? (aT i)=some (vi X1)/\W.cell? (aC j)=some (vi X2))) (by kernel_rfl) (by exact⟨xq,r _ xq,d _ xq,hc _ xq⟩) (fun he=>?_);refine hxn 0 ?_;refine hxn 1 ?_;refine hxn 2 ?_;refine hxn 3 ?_;refine hxn 4 ?_;refine hxn 5 ?_;refine hxn 6 ?_;refine hxn 7 ?_;refine hxn 8 ?_;refine hxn 9 ?_;refine hxt 10 (h:=fun y Y=>?_);go_simp;(go_at_call 145;(with_reducible refine od (M _ xq) ?_);rintro e wx⟨rfl,hX⟩;have hH:=og (a:=N) xq hX);refine hxo Y (by exact⟨xq,r _ xq,d _ xq,hc _ xq⟩) (fun he=>?_);clear Y y;refine hxt 11 (h:=fun y Y=>?_);go_simp;(go_at_call 211;(with_reducible refine od (by5 _ P YY w _ (X.ext xq) (Ext.size (hu.trans xq)) om) ?_);rintro e wy⟨v4,rfl,b,hr⟩;obtain⟨a4,c4,rfl⟩:=b.nshape;have ht:=og (a:=N) xq hr);rw[<-Hn.o]at b|-;refine hxo Y (by exact⟨xq,r _ xq,d _ xq,hc _ xq⟩) (fun he=>?_);clear Y y;refine hxn 12 ?_;refine wpAnyH_done (by kernel_rfl) ?_ _;go_wp2_with fail;go_roundw;exact⟨j+1,a4,c4,om,zg,rfl,b,hz.trans ht⟩;exact zm1
           . have hV:j=p.length:=om;subst hV;have hR:¬((p.length:Nat):Int)<(p.length:Int):=om;go_wp2_with fail;go_roundw;exact⟨i+1,A,c,om,zg,rfl,X,g.trans hz⟩;exact zm1
        . have hL:i=T.length:=om;subst hL;have hh:¬((T.length:Nat):Int)<(T.length:Int):=om;go_wp2_with fail;rw[<-Hg.o]at X|-;exact br (.tuple #[.slice A (sgL l).length c,.bool true]) ⟨_,sgL l,_,rfl,X,rfl,ad.trans g⟩
theorem l96{l:LI}(h:V6 l)(H:0<ord l)(x:Nat):∀n,U1 l x n<ord l
 |0=>H
 |n+1=>I4 l h _ _
theorem cr2{l:LI}(h:V6 l){x:Nat}(K:x<ord l):j9 l x 0=x:=by rw[E4];exact C9 l h x K
theorem l95{l:LI}(h:V6 l){x:Nat}(K:x<ord l):U1 l x 1=x:=C9 l h x K
def lcT(l:LI)(I P:LN):Nat->Nat
 |0=>0
 |k+1=>j9 l (lcT l I P k) (U1 l (d5 I k) (d5 P k))
def exV(l:LI)(I:LN)(x:Nat):Nat:=lcT l I (plP l x l.length) l.length
def b60(l:LI)(I:LN):LN:=(List.range (ord l)).map (exV l I)
theorem du6:(b60 l I).length=ord l:=by simp[b60]
theorem d45{l:LI}(h:d7 l=true)(I P:LN)(k:Nat):lcT l I P k<ord l:=by
 have:=l8 h;cases k with
 |zero=>show 0<ord l;omega
 |succ k=>exact I4 l (m0 h) _ _
theorem cw3{l:LI}{x:Nat}(K:x<ord l):d5 (b60 l I) x=exV l I x:=by
 simp[d5,b60,List.getD,K]
theorem je8{l:LI}(h:d7 l=true)(I:LN):∀y∈b60 l I,y<ord l:=by
 intro y H;obtain⟨x,-,rfl⟩:=pp.1 H;exact d45 h _ _ _
theorem dg7{x:Nat}:(List.range (x+1)).map (exV l I)=(List.range x).map (exV l I)++[exV l I x]:=by
 rw[oW,pF];rfl
def hmE(l:LI)(F:LN)(x y:Nat):Bool:=decide (d5 F (j9 l x y)=j9 l (d5 F x) (d5 F y))
def bk4(l:LI)(F:LN):Bool:=(List.range (ord l)).all fun x=>(List.range (ord l)).all fun y=>hmE l F x y
theorem c84{l:LI}:bk4 l F=true↔∀x y,x<ord l->y<ord l->hmE l F x y=true:=by
 unfold bk4;simp only[oC,ou];constructor;intro H x y o r;exact H x o y r;intro H x o y r;exact H x y o r
theorem jg2{l:LI}{x y:Nat}(o:x<ord l)(r:y<ord l)(e:hmE l F x y=false):bk4 l F=false:=by
 rw[<-pg,c84];intro H;rw[H x y o r]at e;cases e
def b28(l:LI)(F:LN):Bool:=soB l (b9 F)&&(decide (soV l (b9 F)=(l6 l:Int))&&bk4 l F)
def cp3(m k:Nat):LN:=(List.replicate m 0).set k 1
def c39(l:LI):Bool:=(List.range l.length).all fun k=>(List.range (ord l)).any fun e=>decide (plP l e l.length=cp3 l.length k)&&decide (U1 l e (nth l k).toNat=0)
theorem gc0:c39 []=true:=by decide +kernel
theorem gc1:((List.range 10).all fun a=>decide (a<2) || c39 [(a:Int)])=true:=by decide +kernel
theorem gc2:((List.range 10).all fun a=>decide (a<2) || (List.range 10).all fun b=>decide (b<2) || (decide (9<a*b) || c39 [(a:Int),(b:Int)]))=true:=by decide +kernel
theorem gc3:((List.range 10).all fun a=>decide (a<2) || (List.range 10).all fun b=>decide (b<2) || (decide (4<a*b) || (List.range 10).all fun c=>decide (c<2) || (decide (9<a*b*c) || c39 [(a:Int),(b:Int),(c:Int)])))=true:=by decide +kernel
theorem b67{p:Prop}[Decidable p]{b:Bool}(h:(decide p || b)=true)(n:¬p):b=true:=by
 rw[decide_eq_false n]at h;simpa using h
theorem rgA{p:Nat->Bool}(h:(List.range 10).all p=true){a:Nat}(H:a<=9):p a=true:=oC.1 h a (ou.2 om)
theorem lk5{l:LI}(h:d7 l=true)(k:ord l<=9):c39 l=true:=by
 have C:=bl0 h;obtain⟨T,n,p⟩:=(W9 l).1 h;have p:C5 l<=9:=om;clear C;match l,T,n,p with
 |[],_,_,_=>exact gc0
 |[a],_,n,p =>
  have H:2<=a/\a<=24:=n 0 zm;have p:a<=9:=by simpa[C5]using p
  have:=b67 (rgA gc1 (a:=a.toNat) om) om;rwa [show((a.toNat:Nat):Int)=a by omega]at this
 |[a,b],_,n,p =>
  have H:2<=a/\a<=24:=n 0 zm;have o:2<=b/\b<=24:=n 1 zm;have P:a*b<=9:=by simpa[C5]using p
  have e:((a.toNat*b.toNat:Nat):Int)=a*b:=by rw[oO];congr 1<;>omega
  have Q:a*2<=a*b:=pN o.1 om;have q:2*b<=a*b:=pL H.1 om;have:=b67 (b67 (rgA (b67 (rgA gc2 (a:=a.toNat) om) om) (a:=b.toNat) om) om) om;rwa [show((a.toNat:Nat):Int)=a by omega,show((b.toNat:Nat):Int)=b by omega]at this
 |[a,b,c],_,n,p =>
  have H:2<=a/\a<=24:=n 0 zm;have o:2<=b/\b<=24:=n 1 zm;have r:2<=c/\c<=24:=n 2 zm;have P:a*b*c<=9:=by rw[Int.mul_assoc];simpa[C5]using p
  have e:((a.toNat*b.toNat*c.toNat:Nat):Int)=a*b*c:=by rw[oO,oO];congr 1;congr 1<;>omega;omega
  have E:((a.toNat*b.toNat:Nat):Int)=a*b:=by rw[oO];congr 1<;>omega
  have d:2*2<=a*b:=qC H.1 o.1 om om;have Q:a*b*2<=a*b*c:=pN r.1 om;have q:4*c<=a*b*c:=pL om om;have i:a*2<=a*b:=pN o.1 om;have j:2*b<=a*b:=pL H.1 om;have u:=rgA (b67 (rgA gc3 (a:=a.toNat) om) om) (a:=b.toNat) om;have:=b67 (b67 (rgA (b67 (b67 u om) om) (a:=c.toNat) om) om) om;rwa [show((a.toNat:Nat):Int)=a by omega,show((b.toNat:Nat):Int)=b by omega,show((c.toNat:Nat):Int)=c by omega]at this
 |_ :: _ :: _ :: _ :: _,T,_,_=>simp at T
theorem l20{j:Nat}(h:j<m):d5 (cp3 m k) j=if k=j then 1 else 0:=by
 unfold d5 cp3;rw[List.getD_eq_getElem?_getD,List.getElem?_set];by_cases e:k=j;subst e;simp[h];simp[e,h]
theorem l84{l:LI}(h:d7 l=true){I:LN}(V:k<m)(i:d5 I k<ord l):∀j,j<=m->lcT l I (cp3 m k) j=if k<j then d5 I k else 0:=by
 have H:=m0 h;have o:=l8 h;intro j;induction j with
 |zero=>intro _;rfl
 | succ j ih =>
  intro J;show j9 l (lcT l I (cp3 m k) j) (U1 l (d5 I j) (d5 (cp3 m k) j))=_;rw[ih om,l20 om];by_cases e:k=j
  . subst e;rw[if_neg om,if_pos rfl,if_pos om,l95 H i];exact C9 l H _ i
  . rw[if_neg e];by_cases E:k<j
    . rw[if_pos E,if_pos om];exact cr2 H i
    . rw[if_neg E,if_neg om];exact C9 l H 0 om
def b37(l:LI)(I:LN):Nat->Bool
 |0=>true
 |k+1=>b37 l I k&&decide (U1 l (d5 I k) (nth l k).toNat=0)
theorem dh0{l:LI}{I:LN}:∀{m:Nat},b37 l I m=true↔∀k,k<m->U1 l (d5 I k) (nth l k).toNat=0
 |0=>by simp[b37]
 | m+1=>by
  unfold b37
  rw[ow,dh0,decide_eq_true_eq]
  constructor
  . rintro⟨o,r⟩k V
    by_cases e:k=m
    . rw[e];exact r
    . exact o k om
  . intro H;exact⟨fun k V=>H k om,H m om⟩
theorem l36{l:LI}(h:d7 l=true)(p:ord l<=9){I:LN}(i:∀k,k<l.length->d5 I k<ord l)(a:b28 l (b60 l I)=true):b37 l I l.length=true:=by
 have H:=m0 h;have o:=l8 h;have b:bk4 l (b60 l I)=true:=by unfold b28 at a;simp only[ow]at a;exact a.2.2
 have m:∀x y,x<ord l->y<ord l->exV l I (j9 l x y)=j9 l (exV l I x) (exV l I y):=fun x y K Y=>by
  have:=c84.1 b x y K Y
  unfold hmE at this
  rw[decide_eq_true_eq,cw3 I (I4 l H x y),cw3 I K,cw3 I Y]at this
  exact this
 have U:∀x,exV l I x<ord l:=fun x=>d45 h _ _ _;have S:exV l I 0=0:=by
  have:=m 0 0 om om;rw[C9 l H 0 om]at this;refine b26 H (U 0) (show 0<ord l by omega) ?_ (x:=exV l I 0);rw[<-this,cr2 H (U 0)]
 have M:∀e n,e<ord l->exV l I (U1 l e n)=U1 l (exV l I e) n:=by
  intro e n E;induction n with
  |zero=>exact S
  |succ n ih =>
   show exV l I (j9 l (U1 l e n) e)=j9 l (U1 l (exV l I e) n) (exV l I e);rw[m _ _ (l96 H om e n) E,ih]
 rw[dh0];intro k V;have g:=lk5 h p;unfold c39 at g;rw[oC]at g;have W:=g k (ou.2 V);rw[pt]at W;obtain⟨e,E,G⟩:=W;rw[ow,decide_eq_true_eq,decide_eq_true_eq]at G;have E:=ou.1 E;have v:exV l I e=d5 I k:=by
  unfold exV;rw[G.1,l84 h V (i k V) _ (oc _),if_pos V]
 have:=M e (nth l k).toNat E;rw[G.2,S,v]at this;exact this.symm
def Q7(f:Nat->Nat):Nat->Nat
 |0=>0
 |k+1=>Q7 f k+f k
theorem br2{f g:Nat->Nat}{n:Nat}(h:∀k,k<n->f k=g k):Q7 f n=Q7 g n:=by
 induction n with
 |zero=>rfl
 |succ n ih=>show Q7 f n+f n=Q7 g n+g n;rw[ih (fun k V=>h k om),h n om]
theorem j53(f:Nat->Nat)(a:Nat):∀b,Q7 f (a+b)=Q7 f a+Q7 (fun c=>f (a+c)) b
 |0=>rfl
 |b+1=>by show Q7 f (a+b)+f (a+b)=Q7 f a+(Q7 (fun c=>f (a+c)) b+f (a+b));rw[j53 f a b];omega
theorem j54(f:Nat->Nat)(M:Nat):∀n,Q7 f (M*n)=Q7 (fun x=>Q7 (fun c=>f (c+M*x)) M) n
 |0=>rfl
 |n+1=>by
  rw[Nat.mul_succ,j53,j54 f M n]
  show _=Q7 _ n+Q7 (fun c=>f (c+M*n)) M
  congr 1
  exact br2 fun c _=>by rw[Nat.add_comm]
theorem de3{f:Nat->Nat}{b:Nat}(h:∀k,f k<=b):∀n,Q7 f n<=n*b
 |0=>by simp[Q7]
 |n+1=>by have:=de3 h n;have:=h n;rw[Nat.succ_mul];show Q7 f n+f n<=_;omega
theorem dk9(f:Nat->Nat)(a:Nat):∀d,Q7 f a<=Q7 f (a+d)
 |0=>oc _
 |d+1=>nle (dk9 f a d) (Nat.le_add_right _ _)
def Q1(l:LI):Nat->LN->Nat
 |0,X=>if b28 l (b60 l X)then 1 else 0
 |r+1,X=>Q7 (fun x=>Q1 l r (X++[x])) (ord l)
def bu4(n c:Nat):Nat->Nat
 |0=>c
 |i+1=>bu4 n c i/n
def Z4(n c:Nat):Nat->LN
 |0=>[]
 |i+1=>(bu4 n c i%n) :: Z4 n c i
theorem cw0(n c:Nat):∀i,(Z4 n c i).length=i
 |0=>rfl
 |i+1=>by simp[Z4,cw0 n c i]
theorem da6{n:Nat}(h:0<n)(c:Nat):∀i,∀x∈Z4 n c i,x<n
 |0=>by simp[Z4]
 |i+1=>by
  intro x K
  rw[Z4,pM]at K
  rcases K with rfl|K
  . exact pu _ h
  . exact da6 h c i x K
theorem c33(n c:Nat):∀i,bu4 n c i=c/n^i
 |0=>by simp[bu4]
 |i+1=>by rw[bu4,c33 n c i,Nat.div_div_eq_div_mul,pU]
theorem li9(c i:Nat):bu4 n c i<=c:=by rw[c33];exact po _ _
theorem je4{n:Nat}(h:0<n)(c x r:Nat):∀i,i<=r->Z4 n (c+n^r*x) i=Z4 n c i
 |0,_=>rfl
 |i+1,hi=>by
  rw[Z4,Z4,je4 h c x r i om,c33,c33]
  congr 1
  obtain⟨d,rfl⟩:∃d,r=i+1+d:=⟨r-(i+1),om⟩
  rw[show n^(i+1+d)*x=n^i*(n*(n^d*x)) by rw[Nat.pow_add,pU];simp[Nat.mul_assoc],Nat.add_mul_div_left _ _ (Nat.pow_pos h),Nat.add_mul_mod_self_left]
theorem lj0{n c x r:Nat}(H:c<n^r)(K:x<n):Z4 n (c+n^r*x) (r+1)=x :: Z4 n c r:=by
 have h:0<n:=om;rw[Z4,je4 h c x r r (oc _),c33,Nat.add_mul_div_left _ _ (Nat.pow_pos h),Nat.div_eq_of_lt H,oM,qn K]
def b89(l:LI)(I:LN):Nat:=if b37 l I l.length&&b28 l (b60 l I)then 1 else 0
def bb6(l:LI)(K:Nat):Nat:=Q7 (fun c=>b89 l (Z4 (ord l) c l.length)) K
theorem dq2(l:LI):∀r X,Q1 l r X=Q7 (fun c=>if b28 l (b60 l (X++Z4 (ord l) c r))then 1 else 0) (ord l^r)
 |0,X=>by simp[Q1,Q7,Z4]
 |r+1,X=>by
  rw[pU,j54]
  show Q7 (fun x=>Q1 l r (X++[x])) (ord l)=_
  refine br2 fun x K=>?_
  rw[dq2 l r]
  refine br2 fun c h=>?_
  rw[lj0 h K,pr];rfl
theorem l37{l:LI}(h:d7 l=true)(H:ord l<=9):Q1 l l.length []=bb6 l (ord l^l.length):=by
 rw[dq2,bb6];have o:=l8 h;refine br2 fun c _=>?_;rw[pq,b89];cases a:b28 l (b60 l (Z4 (ord l) c l.length));simp;rw[l36 h H (fun k V=>da6 om c _ _ (m7 (by rw[cw0];exact V))) a];rfl
theorem da0(l:LI):∀r X,Q1 l r X<=ord l^r
 |0,X=>by unfold Q1;split<;>simp
 |r+1,X=>by
  rw[pU,qE]
  exact de3 (fun x=>da0 l r (X++[x])) (ord l)
theorem d99(K:Nat):bb6 l K<=K:=by
 have:=de3 (f:=fun c=>b89 l (Z4 (ord l) c l.length)) (b:=1) (fun c=>by unfold b89;split<;>omega) K;rw[Nat.mul_one]at this;exact this
theorem zz119{P:Prop}(h:P:=by go_wp2_with fail;go_roundw;exact⟨i+1,om,zg,E,zh fun M h1 L r=>by by_cases e:M=i;(subst e;exact H2.o L om);exact H1.o M om L r⟩;exact zm1):P:=h
theorem cc6(f:LN)(w:World)(h:c8 w v l)(hF:c8 w vF (b9 f))(R:Hid (d7 l=true))(P:f.length=ord l)(U:∀y∈f,y<ord l):Calls Tryz.prog 299 #[.agg #[v],vF] w (RE w (.bool (b28 l f))):=by
 obtain⟨B,Z,F,C,H,E,Hz⟩:=m04 42 h;clear h;have Hx:=zh (fun W (D:Ext B W)=>hF.ext (F.trans D));obtain⟨aF,cF,aa,rfl,hc,T⟩:=hF.nats;have S:=fun W (D:Ext B W)=>jo7 v l _ (b9 f) W (H W D) (Hx.o W D);have hh:=j2 (c:=cF) elI szI hc;clear hc hF Hx;have ob:=l8 R.o;have Hd:Hid (∀x y,j9 l x y<f.length):=zh fun x y=>by rw[P];exact I4 l (m0 R.o) x y
 have Ht:Hid (∀i,i<f.length->d5 f i<24):=zh fun i J=>by have:=U _ (m7 J);omega
 have hk:f.length<=24:=om;have a:Hid (b28 l f=(soB l (b9 f)&&(decide (soV l (b9 f)=(l6 l:Int))&&bk4 l f))):=zh rfl;have n:=zh P;obtain⟨N,m⟩:=nq (soV l (b9 f));obtain⟨o,p⟩:=nq (soB l (b9 f));simp only[<-m,<-p]at S a;clear m p U;have s:=fun W (D:Ext B W)=>J4 v l W (H W D) R;obtain⟨O,hN⟩:=nq (l6 l);simp only[<-hN]at s a;clear hN P;cases o
 . have A:Hid (b28 l f=false):=zh (by rw[a.o];rfl);clear a;go_in;go_wp2_with fail;rw[<-Z.o];go_wp2_with(go_at_call 330;refine cm (S _ E) fun G z=>?_);go_ret;exact⟨j1 A.o.symm,F.trans z⟩
 cases q:decide (N=(O:Int))
 . have A:Hid (b28 l f=false):=zh (by rw[a.o,q];rfl);have hn:(N != (O:Int))=true:=(by rw[bne_iff_ne];exact of_decide_eq_false q);clear a q;go_in;go_wp2_with fail;rw[<-Z.o];go_wp2_with(first|(go_at_call 330;refine cm (S _ E) fun G z=>?_;have b:=C _ z)|(go_at_call 202;refine cm (s _ z) fun w2 I=>?_));go_ret;exact⟨j1 A.o.symm,F.trans (z.trans I)⟩
 have A:Hid (b28 l f=bk4 l f):=zh (by rw[a.o,q];rfl);have hn:(N != (O:Int))=false:=(by have:=of_decide_eq_true q;rw[this];simp);clear a q;go_in;go_wp2_with fail;rw[<-Z.o];go_wp2_with(first|(go_at_call 330;refine cm (S _ E) fun G z=>?_;have b:=C _ z)|(go_at_call 202;refine cm (s _ z) fun w2 I=>?_));replace E:=z.trans I;clear z I b S s hn;go_loopw [25] (fun V wr=>∃i:Nat,i<=f.length/\V=vi i/\Ext B wr/\Hid (∀M,M<i->∀j,j<f.length->hmE l f M j=true)) (fun V _=>f.length-(intOf V).toNat);exact⟨0,om,rfl,E,zh om⟩;case round =>
  clear E;obtain⟨i,J,rfl,E,H1⟩:=hrel;by_cases hit:i<f.length
  . go_wp2_with fail;go_loopw [30] (fun Q wq=>∃j:Nat,j<=f.length/\Q=vi j/\Ext B wq/\Hid (∀L,L<j->hmE l f i L=true)) (fun Q _=>f.length-(intOf Q).toNat);exact⟨0,om,rfl,E,zh om⟩;case round =>
     clear E;obtain⟨j,hj,rfl,E,H2⟩:=hrel;by_cases t:j<f.length
     . have ht:j9 l i j<f.length:=Hd.o i j;have cS:=fun u=>T (j9 l i j) _ ht (F.trans (E.trans (c9 wr u)));have cI:=fun u=>T i _ hit (F.trans (E.trans (c9 wr u)));have cJ:=fun u=>T j _ t (F.trans (E.trans (c9 wr u)));have hU:=fun u=>C _ (E.trans (c9 wr u));have tI:=Ht.o i hit;have tJ:=Ht.o j t;have g:=fun u=>O7 v l i j _ (H _ (E.trans (c9 wr u))) R om om;have d:=fun u=>O7 v l (d5 f i) (d5 f j) _ (H _ (E.trans (c9 wr u))) R om om;have Y:(((d5 f (j9 l i j):Nat):Int) != ((j9 l (d5 f i) (d5 f j):Nat):Int)) = !hmE l f i j:=by
        unfold hmE;rw[oA,bne_iff_ne];simp;omega
       have ha:=E;clear E;have E:=er wr;cases X:hmE l f i j
       . have k:Hid (bk4 l f=false):=zh (jg2 (n.o ▸ hit) (n.o ▸ t) X);rw[X]at Y;clear X;go_wp2_with fail;refine wl E ?_;(repeat(go_big_quiet_step(first|(go_at_call 271;first|with_reducible exact oa (g _)|with_reducible exact oa (d _)))));refine zd fun W E=>?_;go_wp2_with fail;go_ret;exact⟨j1 (by rw[A.o,k.o]),F.trans (ha.trans E)⟩
       . have k:=zh X;rw[X]at Y;clear X;go_wp2_with fail;refine wl E ?_;(repeat(go_big_quiet_step(first|(go_at_call 271;first|with_reducible exact oa (g _)|with_reducible exact oa (d _)))));refine zd fun W E=>?_;go_wp2_with fail;go_roundw;exact⟨j+1,om,zg,ha.trans E,zh fun L h1=>by by_cases e:L=j;(subst e;exact k.o);exact H2.o L om⟩;exact zm1
     . have hf:j=f.length:=om;exact zz119
  . have hl:i=f.length:=om;have k:Hid (bk4 l f=true):=zh (c84.2 fun x y K hy=>H1.o x (by rw[hl,n.o];exact K) y (by rw[n.o];exact hy));go_wp2_with fail;go_ret;exact⟨j1 (by rw[A.o,k.o]),F.trans E⟩
theorem ca3(f:LN)(w:World)(h:c8 w v l)(hF:c8 w vF (b9 f))(R:Hid (d7 l=true))(O:f.length=ord l)(U:∀y∈f,y<ord l):Calls Tryz.prog 282 #[.agg #[v],vF] w (RE w (.bool (b28 l f))):=by
 obtain⟨B,Z,F,C,H,E,Hz⟩:=m04 42 h;clear h;have Hx:=zh (fun W (D:Ext B W)=>hF.ext (F.trans D));obtain⟨aF,cF,aa,rfl,hf,Q⟩:=hF.nats;have S:=fun W (D:Ext B W)=>ca7 v l _ (b9 f) W (H W D) (Hx.o W D);have hs:=j2 (c:=cF) elI szI hf;clear hf hF Hx;have ob:=l8 R.o;have Hd:Hid (∀x y,j9 l x y<f.length):=zh fun x y=>by rw[O];exact I4 l (m0 R.o) x y
 have Ht:Hid (∀i,i<f.length->d5 f i<24):=zh fun i J=>by have:=U _ (m7 J);omega
 have hu:f.length<=24:=om;have a:Hid (b28 l f=(soB l (b9 f)&&(decide (soV l (b9 f)=(l6 l:Int))&&bk4 l f))):=zh rfl;have T:=zh O;obtain⟨s,m⟩:=nq (soV l (b9 f));obtain⟨o,p⟩:=nq (soB l (b9 f));simp only[<-m,<-p]at S a;clear m p U;have d:=fun W (D:Ext B W)=>o4 v l W (H W D) R;have hl:(((f.length:Nat):Int) != ((ord l:Nat):Int))=false:=by rw[O];simp
 have hk:=o6 (n:=ord l) om;obtain⟨N,b⟩:=nq (pw (ord l));have hr:1<=N/\N<=16777216:=by rw[b];exact⟨X9 _,bc9 om⟩
 have hh:((l6 l:Nat):Int)=(N:Int)-1:=by unfold l6;rw[<-b];omega
 rw[<-b]at hk;rw[hh]at a;clear b hh O;cases o
 . have A:Hid (b28 l f=false):=zh (by rw[a.o];rfl);clear a;go_in;go_wp2_with fail;rw[<-Z.o];go_wp2_with(go_at_call 292;refine cm (S _ E) fun G z=>?_);go_ret;exact⟨j1 A.o.symm,F.trans z⟩
 cases q:decide (s=(N:Int)-1)
 . have A:Hid (b28 l f=false):=zh (by rw[a.o,q];rfl);have hn:(s != (N:Int)-1)=true:=(by rw[bne_iff_ne];exact of_decide_eq_false q);clear a q;go_in;go_wp2_with fail;rw[<-Z.o];go_wp2_with(first|(go_at_call 292;refine cm (S _ E) fun G z=>?_;have g:=C _ z;have X:=z)|(go_at_call 103;refine cm (d _ X) fun w2 I=>?_;replace X:=X.trans I;have ha:=C _ X));go_ret;exact⟨j1 A.o.symm,F.trans X⟩
 have A:Hid (b28 l f=bk4 l f):=zh (by rw[a.o,q];rfl);have hn:(s != (N:Int)-1)=false:=(by have:=of_decide_eq_true q;rw[this];simp);clear a q;go_in;go_wp2_with fail;rw[<-Z.o];go_wp2_with(first|(go_at_call 292;refine cm (S _ E) fun G z=>?_;have g:=C _ z;have X:=z)|(go_at_call 103;refine cm (d _ X) fun w2 I=>?_;replace X:=X.trans I;have ha:=C _ X));clear E;have E:=X;clear X g ha S d hn hl;go_loopw [7] (fun V wr=>∃i:Nat,i<=f.length/\V=vi i/\Ext B wr/\Hid (∀M,M<i->∀j,j<f.length->hmE l f M j=true)) (fun V _=>f.length-(intOf V).toNat);exact⟨0,om,rfl,E,zh om⟩;case round =>
  clear E;obtain⟨i,J,rfl,E,H1⟩:=hrel;by_cases hit:i<f.length
  . go_wp2_with fail;go_loopw [8] (fun P wq=>∃j:Nat,j<=f.length/\P=vi j/\Ext B wq/\Hid (∀L,L<j->hmE l f i L=true)) (fun P _=>f.length-(intOf P).toNat);exact⟨0,om,rfl,E,zh om⟩;case round =>
     clear E;obtain⟨j,hj,rfl,E,H2⟩:=hrel;by_cases t:j<f.length
     . have ht:j9 l i j<f.length:=Hd.o i j;have cS:=fun u=>Q (j9 l i j) _ ht (F.trans (E.trans (c9 wr u)));have cI:=fun u=>Q i _ hit (F.trans (E.trans (c9 wr u)));have cJ:=fun u=>Q j _ t (F.trans (E.trans (c9 wr u)));have hU:=fun u=>C _ (E.trans (c9 wr u));have tI:=Ht.o i hit;have tJ:=Ht.o j t;have a1:=fun u=>G8 v l i j _ (H _ (E.trans (c9 wr u))) R om om;have a2:=fun u=>G8 v l (d5 f i) (d5 f j) _ (H _ (E.trans (c9 wr u))) R om om;have he:(((d5 f (j9 l i j):Nat):Int) != ((j9 l (d5 f i) (d5 f j):Nat):Int)) = !hmE l f i j:=by
        unfold hmE;rw[oA,bne_iff_ne];simp;omega
       have hc:=E;clear E;have E:=er wr;cases Y:hmE l f i j
       . have k:Hid (bk4 l f=false):=zh (jg2 (T.o ▸ hit) (T.o ▸ t) Y);rw[Y]at he;clear Y;go_wp2_with fail;refine wl E ?_;(repeat(go_big_quiet_step(first|(go_at_call 220;first|with_reducible exact oa (a1 _)|with_reducible exact oa (a2 _)))));refine zd fun W E=>?_;go_wp2_with fail;go_ret;exact⟨j1 (by rw[A.o,k.o]),F.trans (hc.trans E)⟩
       . have k:=zh Y;rw[Y]at he;clear Y;go_wp2_with fail;refine wl E ?_;(repeat(go_big_quiet_step(first|(go_at_call 220;first|with_reducible exact oa (a1 _)|with_reducible exact oa (a2 _)))));refine zd fun W E=>?_;go_wp2_with fail;go_roundw;exact⟨j+1,om,zg,hc.trans E,zh fun L h1=>by by_cases e:L=j;(subst e;exact k.o);exact H2.o L om⟩;exact zm1
     . have hp:j=f.length:=om;exact zz119
  . have hm:i=f.length:=om;have k:Hid (bk4 l f=true):=zh (c84.2 fun x y K hy=>H1.o x (by rw[hm,T.o];exact K) y (by rw[T.o];exact hy));go_wp2_with fail;go_ret;exact⟨j1 (by rw[A.o,k.o]),F.trans E⟩
theorem l12(h:c8 w v l)(R:Hid (d7 l=true))(K:x<16777216)(m:n<=1000000):Calls Tryz.prog 298 #[.agg #[v],vi x,vi n] w (RE w (vi (U1 l x n:Nat))):=by
 obtain⟨B,Z,F,C,H,E,z⟩:=m04 42 h;clear h;have a:¬((n:Int)<0):=om;go_in;go_wp2_with fail;rw[<-Z.o];go_loopw [7,16] (fun s I wr=>∃i:Nat,i<=n/\I=vi i/\s=vi (U1 l x i:Nat)/\Ext B wr) (fun _ I _=>n-(intOf I).toNat);exact⟨0,om,rfl,rfl,E⟩
 clear E;obtain⟨i,J,rfl,rfl,E⟩:=hrel;by_cases U:i<n
 . have t:(i:Int)<(n:Int):=om;have b:=C _ E;have M:=c45 R.o x i;have S:Hid (U1 l x (i+1)=j9 l (U1 l x i) x):=zh rfl;go_wp2_with(first|(go_at_call 271;refine cx (O7 _ _ _ _ _ (H _ E) (R) (om) (K)) E fun e E=>?_));go_roundw;exact⟨i+1,om,zg,by rw[S.o],E⟩;exact zm1
 have N:i=n:=om;have t:¬(i:Int)<(n:Int):=om;rw[N]at t|-;clear N J U;exact zz41
theorem jm8(h:c8 w v l)(R:Hid (d7 l=true))(K:x<16777216):Calls Tryz.prog 297 #[.agg #[v],vi x] w fun e S=>∃T,e=.returned T/\Own 3 w S T (b9 (plP l x l.length))/\Ext w S:=by
 have f:=h.op;have F:=(er w).alloc (.cells #[v] 42);have E:=er (w.alloc (.cells #[v] 42));have C:=d8 w v 42;have H:∀W,Ext (w.alloc (.cells #[v] 42)) W->c8 W v l:=fun W D=>h.ext (F.trans D);clear h;obtain⟨Q,c,ar,rfl,B,a,L⟩:=f;have A:=j2 (c:=c) elI szI a;clear a;have he:=E5 R.o;have t:=zh L;clear L;have O:=l9 (TI:=3) (n:=0) om F [] rfl;have z:=E.alloc (.cells #[] 3);have I:=F.alloc (.cells #[] 3);have b:=C _ z;go_in;go_wp2_with fail;go_loopw [5,1,12] (fun y g i wr=>∃k:Nat,k<=l.length/\i=vi k/\g=vi (plR l x k:Nat)/\Own 3 w wr y (b9 (plP l x k))/\Ext w wr) (fun _ _ i _=>l.length-(intOf i).toNat);exact⟨0,om,rfl,rfl,by simpa[plP,b9]using O,I⟩
 clear O E z I b;obtain⟨k,V,rfl,rfl,O,E⟩:=hrel;by_cases U:k<l.length
 . have hI:(k:Int)<(l.length:Int):=om;have Z:=t.o k _ U E;have q:=G4 R.o U;have u:=d57 l x k;have J:Hid (plR l x (k+1)=plR l x k/(nth l k).toNat):=zh rfl;have P:Hid (plP l x (k+1)=plP l x k++[plR l x k%(nth l k).toNat]):=zh rfl;have hl:=bs6 l x k;obtain⟨o,p⟩:∃o:Nat,nth l k=(o:Int):=⟨(nth l k).toNat,om⟩;rw[p]at Z q;rw[p,oY]at J P;clear p;obtain⟨r,Y⟩:=nq (plR l x k);rw[<-Y]at u J P|-;clear Y;have ha:((o:Int) == 0)=false:=zso;have hs:0<(o:Int):=om;have d:=zh (qa r o);have N:=zh (pn r o);have m:r%o<16777216:=(by have:=Nat.mod_le r o;omega);have M:r/o<16777216:=(by have:=po r o;omega);have hc:(0:Int)<=(r:Int)%(o:Int)/\(r:Int)%(o:Int)<16777216:=(by rw[<-N.o];exact⟨pK _,Int.ofNat_lt.2 m⟩);have hf:(0:Int)<=(r:Int)/(o:Int)/\(r:Int)/(o:Int)<16777216:=(by rw[<-d.o];exact⟨pK _,Int.ofNat_lt.2 M⟩);clear m M;go_wp2_with(at_builtin;refine p6 slI rfl _ _ rfl w _ _ _ _ O E (by rw[d9];omega) rfl rfl ?_;intro j G X z);go_roundw;exact⟨k+1,om,zg,by rw[J.o,d.o],by rw[P.o,G6,N.o];exact X,z⟩;exact zm1
 have s:k=l.length:=om;subst s;go_wp2_with fail;go_ret;exact⟨_,rfl,O,E⟩
theorem c56(h:c8 w v l)(R:Hid (d7 l=true))(K:M7 l (x:Int)=true)(hx2:x<16777216)(m:n<=100):Calls Tryz.prog 280 #[.agg #[v],vi x,vi n] w (RE w (vi (U1 l x n:Nat))):=by
 obtain⟨B,Z,F,C,H,E,z⟩:=m04 42 h;clear h;have a:¬((n:Int)<0):=om;have u:inB (n:Int) (-100) 100=true:=by unfold inB;simp;omega
 have b:=C _ E;go_in;go_wp2_with fail;rw[<-Z.o];go_wp2_with(first|(go_at_call 53;refine cx (be0 _ _ _ _ (H _ E) (K)) E fun W E=>?_)|(go_at_call 141;refine(P6 _ _ _ _).mono ?_;rintro e W⟨rfl,rfl⟩));go_loopw [7,8] (fun s I wr=>∃i:Nat,i<=n/\I=vi i/\s=vi (U1 l x i:Nat)/\Ext B wr) (fun _ I _=>n-(intOf I).toNat);exact⟨0,om,rfl,rfl,E⟩
 clear E b;obtain⟨i,J,rfl,rfl,E⟩:=hrel;by_cases U:i<n
 . have t:(i:Int)<(n:Int):=om;have b:=C _ E;have M:=c45 R.o x i;have S:Hid (U1 l x (i+1)=j9 l (U1 l x i) x):=zh rfl;go_wp2_with(first|(go_at_call 220;refine cx (G8 _ _ _ _ _ (H _ E) (R) (om) (hx2)) E fun W E=>?_));go_roundw;exact⟨i+1,om,zg,by rw[S.o],E⟩;exact zm1
 have N:i=n:=om;have t:¬(i:Int)<(n:Int):=om;rw[N]at t|-;clear N J U;exact zz41
theorem dn4(h:c8 w v l)(R:Hid (d7 l=true))(K:x<ord l):Calls Tryz.prog 324 #[.agg #[v],vi x] w fun e S=>∃T,e=.returned T/\Own 3 w S T (b9 (plP l x l.length))/\Ext w S:=by
 have hp:=h.op;have F:=(er w).alloc (.cells #[v] 42);have E:=er (w.alloc (.cells #[v] 42));have C:=d8 w v 42;have H:∀W,Ext (w.alloc (.cells #[v] 42)) W->c8 W v l:=fun W D=>h.ext (F.trans D);clear h;obtain⟨Q,c,ar,rfl,hc,a,L⟩:=hp;have ha:=j2 (c:=c) elI szI a;clear a;have ht:=E5 R.o;have hf:=l8 R.o;have Hs:=zh (fun y (hy:y<=x)=>bk3 R.o (show y<ord l by omega));have m:=zh L;clear L;have O:=l9 (TI:=3) (n:=0) om E [] rfl;have z:=E.alloc (.cells #[] 3);have I:=F.alloc (.cells #[] 3);have g:=C _ z;go_in;go_wp2_with fail;go_loopw [5,1,6] (fun s5 s1 i wr=>∃k:Nat,k<=l.length/\i=vi k/\s1=vi (plR l x k:Nat)/\Own 3 (w.alloc (.cells #[.slice Q l.length c] 42)) wr s5 (b9 (plP l x k))/\Ext (w.alloc (.cells #[.slice Q l.length c] 42)) wr) (fun _ _ i _=>l.length-(intOf i).toNat);exact⟨0,om,rfl,rfl,by simpa[plP,b9]using O,z⟩
 clear O E z I g;obtain⟨k,V,rfl,rfl,O,E⟩:=hrel;have hj:=C _ E;by_cases U:k<l.length
 . have hI:(k:Int)<(l.length:Int):=om;have j:=m.o k _ U (F.trans E);have q:=G4 R.o U;have u:=d57 l x k;have M:=be0 _ l (plR l x k) _ (H _ E) (Hs.o _ u);have J:Hid (plR l x (k+1)=plR l x k/(nth l k).toNat):=zh rfl;have P:Hid (plP l x (k+1)=plP l x k++[plR l x k%(nth l k).toNat]):=zh rfl;have hl:=bs6 l x k;obtain⟨o,p⟩:∃o:Nat,nth l k=(o:Int):=⟨(nth l k).toNat,om⟩;rw[p]at j q;have X:=zh (fun W (D:Ext w W)=>(m.o k W U D).trans (congrArg (fun s=>some (Value.int .i64 s)) p));rw[p,oY]at J P;clear p;obtain⟨r,Y⟩:=nq (plR l x k);rw[<-Y]at u J P M|-;clear Y;have hm:((o:Int) == 0)=false:=zso;have hs:0<(o:Int):=om;have d:=zh (qa r o);have N:=zh (pn r o);have Z:r%o<16777216:=(by have:=Nat.mod_le r o;omega);have b:r/o<16777216:=(by have:=po r o;omega);have hq:(0:Int)<=(r:Int)%(o:Int)/\(r:Int)%(o:Int)<16777216:=(by rw[<-N.o];exact⟨pK _,Int.ofNat_lt.2 Z⟩);have hu:(0:Int)<=(r:Int)/(o:Int)/\(r:Int)/(o:Int)<16777216:=(by rw[<-d.o];exact⟨pK _,Int.ofNat_lt.2 b⟩);clear Z b;go_wp2_with(first|(go_at_call 53;refine cm M fun w2 I=>?_;have A:=O.ext I;have B:=E.trans I;have he:=C _ B;have hh:=C _ (B.alloc (.cells #[vi ((r:Int)%(o:Int))] 3));have hv:=X.o _ (F.trans B))|(at_builtin;refine p6 slI rfl _ _ rfl (w.alloc (.cells #[.slice Q l.length c] 42)) _ _ _ _ A B (by rw[d9];omega) rfl rfl ?_;intro v1 G f z;have hi:=C _ z;have hw:=X.o _ (F.trans z)));go_roundw;exact⟨k+1,om,zg,by rw[J.o,d.o],by rw[P.o,G6,N.o];exact f,z⟩;exact zm1
 have t:k=l.length:=om;subst t;exact zz82
end Go.Zz
