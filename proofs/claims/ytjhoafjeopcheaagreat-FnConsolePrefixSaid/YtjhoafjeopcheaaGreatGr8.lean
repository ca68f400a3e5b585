/- The search for an isomorphism: the reference. -/
import Derived.Test.YtjhoafjeopcheaaGreatGr7
set_option linter.all false
set_option maxHeartbeats 2000000
set_option maxRecDepth 8000
namespace Go.Zz
open Go.RowKit Go.Proofs
variable(v:Value)(L:LN){u b f e R a m n c k:Nat}{s xs T l:LI}{w:World}{P:Program}{t:TypeId}{out o X:LN}{Q:Option Addr}{x:Int}
theorem c8.take(h:c8 w (.slice Q n c) l)(V:k<=l.length):c8 w (.slice Q k c) (l.take k):=by
 obtain⟨O,x,v,o,r,T⟩:=h;simp only[Value.slice.injEq]at v;obtain⟨rfl,rfl,rfl⟩:=v;have H:(l.take k).length=k:=by rw[ol];omega
 refine⟨Q,c,by rw[H],by rw[H];omega,by rw[H];omega,fun i J=>?_⟩;rw[H]at J;obtain⟨a,A,C⟩:=T i om;refine⟨a,A,?_⟩;rw[C];simp[nth,List.getD,J]
theorem jk3(n:Nat):b9 (L.take n)=(b9 L).take n:=by simp[b9]
theorem Blk.ints1{g:Nat}{T:TypeId}{y:Int}(h:Blk w g T #[vi y]):c8 w (.slice (some (aD g 0)) 1 1) [y]:=by
 refine⟨_,1,rfl,oc _,zm,fun i J=>⟨_,rfl,?_⟩⟩;match i,J with
 |0,_=>exact h.cell (i:=0) rfl
theorem c8.cap(h:c8 w (.slice Q n c) l):n<=c:=by
 obtain⟨a,C,v,o,_⟩:=h;simp only[Value.slice.injEq]at v;obtain⟨rfl,rfl,rfl⟩:=v;exact o
theorem U6(h:P.underlying t=some (.slice (P.elem t)))(S:∀w,(sizeOf (P.elem t)).run P w=.ok 1 w)(Q:Option Addr)(n c:Nat)(k:Int)(K:0<=k)(V:k<=c)(W:World):(Instr.slice t (.slice Q n c) none (some (vi k)) none).run P W=.ok (.slice Q k.toNat c) W:=by
 rw[run_slice_h (ht:=h) (h0:=K) (h2:=V),S];simp[Result.andThen,sliced];cases Q<;>simp[Addr.add]
theorem Y0(H:P.underlying t=some (.slice (P.elem t)))(S:∀w,(sizeOf (P.elem t)).run P w=.ok 1 w)(Q:Option Addr)(n c:Nat)(k:Int)(K:0<=k)(V:k<=c)(W:World):(Instr.sliceAt t (.slice Q n c) none (some (vi k)) none).run P W=.ok (.slice Q k.toNat c) W:=by
 rw[run_sliceAt_slice (h:=H),U6 H S Q n c k K V]
def NxP(P:World)(M:LN)(Y:Nat)(s:Value)(w:World):Prop :=
 ∃Q c,s=.slice Q (M.length+1) c/\Own 3 P w (.slice Q (M.length+1) c) (b9 (M++[Y]))/\Ext P w
theorem NxP.of{P:World}{M:LN}{Y:Nat}{s:Value}(h:N7 3 P P w s (b9 M++[(Y:Int)]))(E:Ext P w):NxP P M Y s w:=by
 have r:=h.own (er P);rw[show b9 M++[(Y:Int)]=b9 (M++[Y]) by simp[b9]]at r;obtain⟨Q,c,rfl,-⟩:=r.shape;rw[d9]at r|-;rw[show(M++[Y]).length=M.length+1 by simp]at r|-;exact⟨Q,c,rfl,r,E⟩
theorem zz93{P:Prop}(h:P:=by refine zd fun W E=>?_;go_wp2_with fail;go_roundw;exact⟨k+1,om,zg,hl.trans (j.trans (I.trans E)),zh fun K hi=>by by_cases e:K=k;(subst e;exact Ho.o);exact X.o K om⟩;exact zm1):P:=h
theorem jz2(u:Value)(g h:LI)(L:LN)(vL:Value)(b:Nat)(Hg:Hid (d7 g=true))(Hh:Hid (d7 h=true))(ae:L.Nodup)(hA:∀y∈L,y<ord g)(ad:1<=L.length)(au:L.length<=5)(hs:b<2^ord h):∀(f:Nat) (M:LN) (vM:Value) (O w:World),c8 w v g->c8 w u h->c8 w vL (b9 L)->Own 3 O w vM (b9 M)->Ext O w->M.Nodup->(∀y∈M,y<ord h)->M.length<=L.length->L.length<M.length+f ->
 Calls Tryz.prog 238 #[.agg #[v],.agg #[u],vL,vM,vi b] w fun e w'=>∃v' Q,e=.returned (.tuple #[v',.bool (fiS g h L (j3 b) f M).isSome])/\Own 3 O w' v' (b9 Q)/\(∀N,fiS g h L (j3 b) f M=some N->Q=N)/\(M.length<L.length->fiS g h L (j3 b) f M=none->Q=[])/\Ext w w':=by
 intro f;induction f with
 |zero=>intro M vM O w _ _ _ _ _ _ _ h1 r;omega
 |succ f ih =>
 intro M vM O w hv hu hL hM af hn ho ap ar;obtain⟨B,p⟩:=nq ((w.alloc (.cells #[v] 42)).alloc (.cells #[u] 42));have F:Ext w B:=by rw[p];exact((er _).alloc _).alloc _
 have B0:Blk B w.heap.size 42 #[v]:=by rw[p];exact(oq _ _ _).alloc _
 have B1:Blk B (w.heap.size+1) 42 #[u]:=by rw[p];simpa using Blk.new (w.alloc (.cells #[v] 42)) 42 #[u]
 have b0:=B0.atc 0 rfl;have b1:=B1.atc 0 rfl;have HV:=zh (fun W (D:Ext B W)=>hv.ext (F.trans D));have HU:=zh (fun W (D:Ext B W)=>hu.ext (F.trans D));have E:=er B;have Z:=zh p;clear hv hu p B0 B1;have q:=zh (fun W (D:Ext B W)=>hL.ext (F.trans D));have d:=zh (fun W (D:Ext B W)=>hM.ext (F.trans D));have hp:=af.trans F;have hD:=l8 Hh.o;have aj:=l8 Hg.o;have hX:b<2^24:=nlt hs (E7 Hh.o);obtain⟨aM,cM,rfl,-⟩:=hM.shape;obtain⟨aL,cL,-,rfl,-,-,-⟩:=hL.op;rw[d9 L]at ih;have Hb:=zh ih;clear ih hL hM;rw[d9,d9];rw[d9]at q d;by_cases x:M.length=L.length
 . have hq:(((M.length:Nat):Int) == ((L.length:Nat):Int))=true:=(by rw[x];simp);have hK:ch6 g h (b9 L) (b9 M)=ch7 g h L M:=l76 Hg.o Hh.o ae hn hA ho x.symm ad om;have HK:Hid (fiS g h L (j3 b) (f+1) M=if ch7 g h L M then some M else none):=zh (by unfold fiS;rw[if_pos x]);have cI:=fun W (D:Ext B W)=>lb6 v u g h _ _ (b9 L) (b9 M) W (HV.o W D) (HU.o W D) (q.o W D) (d.o W D).ints;rw[hK]at cI;have U:¬M.length<L.length:=om;have Hc:=zh U;clear hK U x;cases V:ch7 g h L M
   all_goals
    rw[V]at cI HK
    clear V
    go_in
    go_wp2_with fail
    rw[<-Z.o]
    refine(cI _ E).mono ?_
    rintro e G⟨rfl,z⟩
    go_wp2_with fail
    rw[HK.o]
   exact br (.tuple #[.slice aM M.length cM,.bool false]) ⟨_,M,rfl,(d.o _ z),fun N e=>by simp at e,fun e=>absurd e Hc.o,F.trans z⟩;exact br (.tuple #[.slice aM M.length cM,.bool true]) ⟨_,M,rfl,(d.o _ z),fun N e=>by simp at e;exact e,fun e=>absurd e Hc.o,F.trans z⟩
 have hq:(((M.length:Nat):Int) == ((L.length:Nat):Int))=false:=(by rw[beq_eq_false_iff_ne];omega);have HF:Hid (fiS g h L (j3 b) (f+1) M=(j3 b).findSome? (fun y=>if (B7 M).testBit y || !kpB g h (L.take (M.length+1)) (M++[y])then none else fiS g h L (j3 b) f (M++[y]))):=zh (by
  conv=>lhs;unfold fiS
  rw[if_neg x])
 have ai:M.length<L.length:=om;clear x;go_in;go_wp2_with fail;rw[<-Z.o];refine(L0 b hX _).mono ?_;rintro e1 G⟨v1,rfl,hJ,z⟩;obtain⟨aq,cE,aE,rfl,hH,hG⟩:=hJ.ints.nats;have hI:=j2 (c:=cE) elI szI hH;have hz:∀y∈j3 b,y<ord h:=fun y H=>L7 hs (I0.1 H).2;clear hH hJ;obtain⟨s,he⟩:=nq (j3 b);rw[<-he]at hG hI hz HF Hb|-;have av:s.length<=24:=(by rw[he];exact D0 b);have Hd:=zh he;clear he;go_wp2_with fail;go_loopw [13] (fun iv wr=>∃k:Nat,k<=s.length/\iv=vi k/\Ext G wr/\Hid (∀K,K<k->(if (B7 M).testBit (d5 s K) || !kpB g h (L.take (M.length+1)) (M++[d5 s K])then none else fiS g h L s f (M++[d5 s K]))=none)) (fun iv _=>s.length-(intOf iv).toNat);exact⟨0,om,rfl,er _,zh om⟩;case round =>
  clear E;obtain⟨k,V,rfl,E,X⟩:=hrel;have hx:=z.trans E;by_cases U:k<s.length
  . have hc:=hz _ (m7 U);have hh:∀W,Ext wr W->W.cell? (aE k)=some (vi (d5 s k:Int)):=fun W D=>hG k _ U (E.trans D);have hm:∀W,Ext wr W->Ext B W:=fun W D=>hx.trans D;obtain⟨Y,hY⟩:=nq (d5 s k);have HY:=zh hY;rw[<-hY]at hh hc;have hR:(b9 M).length+[(Y:Int)].length<=17592186044416:=(by rw[d9];simp;omega);clear hY;have hl:=E;clear E;have E:=er wr;have Hj:=zh (fun W (D:Ext wr W)=>(d.o W (hm W D)).ints);have aw:((b9 M).length:Int)=(M.length:Int):=(by rw[d9]);go_upto_region 7 with fail;go_cut [14] (fun sa wx=>NxP wr M Y sa wx);case first =>
     (first|(go_region_held3 (fun W=>Ext wr W/\W.cell? (aE k)=some (vi (Y:Int))) (exact⟨xq,hh _ xq⟩) (first|(have al:=hC;refine q9 slI rfl _ _ rfl wr wr _ _ (b9 M) [(Y:Int)] (Or.inr (by first|exact hC|exact hC.alloc _|exact(hC.alloc _).drew)) (Blk.ints1 (T:=3) zq1) xq hR rfl rfl ?_;intro vD wD hT hS am)|(refine Q6 slI rfl _ _ rfl _ _ (b9 M) rfl rfl zq0 (Hj.o _ xq) wr (by first|exact oc _|omega|(simp;omega)) xq ?_;intro aC cC wC hC ao hEC;have an:=og (a:=wr) xq hEC)))|(fail "the region"));all_goals(go_wp2_with fail;go_meet;exact NxP.of hT hS)
    case rest =>
     obtain⟨aN,cN,rfl,hN,j⟩:=hcut;have S:=fun W (D:Ext wc W)=>ca7 u h (.slice aN (M.length+1) cN) (b9 (M++[Y])) W (HU.o W (hm W (j.trans D))) (hN.ext D).ints;rw[lc1 Hh.o hn ho hc]at S;have HN:=zh (fun W (D:Ext wc W)=>hN.ext D);have Ha:Hid ((M++[Y]).length=M.length+1):=zh zm;have Hl:=zh ai;have ax:(M.length:Int)+1<=(L.length:Int):=om;have ac:∀y∈L.take (M.length+1),y<24:=fun y H=>nlt (hA y (pJ H)) aj.2;have ab:∀y∈M++[Y],y<24:=fun y H=>by
      rw[oP,oE]at H
      rcases H with H|rfl
      . exact nlt (ho y H) hD.2
      . exact nlt hc hD.2
     have Hi:Hid (∀y∈M++[Y],y<ord h):=zh fun y H=>by
      rw[oP,oE]at H
      rcases H with H|rfl
      . exact ho y H
      . exact hc
     have Hk:Hid ((L.take (M.length+1)).length=M.length+1):=zh (by rw[ol];omega);clear hN hh hI;have hP:=sh j hm;cases A:(B7 M).testBit Y
     . rw[A]at S;simp only[Bool.not_false]at S;have He:Hid ((M++[Y]).Nodup):=zh (by
        rw[qx];refine⟨hn,zm,fun a ha b C=>?_⟩;rw[oE]at C;subst C;rintro rfl;rw[dr0]at A;simp[ha]at A)
       have Ht:=zh A;clear A;go_wp2_with fail;refine cm (S _ (er _)) fun m I=>?_;have i:=hP _ I;have kb:=fun J=>b0 _ (i.trans (c9 m J));have ka:=fun J=>b1 _ (i.trans (c9 m J));have cK:=fun J=>d70 v u g h (.slice aL (M.length+1) cL) (.slice aN (M.length+1) cN) (L.take (M.length+1)) (M++[Y]) (Lat m J) (HV.o _ (i.trans (c9 m J))) (HU.o _ (i.trans (c9 m J))) Hg Hh (by rw[jk3];exact(q.o _ (i.trans (c9 m J))).take (by rw[d9];omega)) (HN.o _ (I.trans (c9 m J))).ints ac ab (by rw[Hk.o,Ha.o];omega) (by rw[Hk.o];omega);clear S;have hU:=(q.o _ i).cap;have hZ:=fun W=>U6 (P:=Tryz.prog) elI szI aL L.length cL ((M.length:Int)+1) om om W;have aa:=fun W=>Y0 (P:=Tryz.prog) elI szI aL L.length cL ((M.length:Int)+1) om om W;rw[show((M.length:Int)+1).toNat=M.length+1 by omega]at hZ aa;clear hU;have E:=er m;cases V:kpB g h (L.take (M.length+1)) (M++[Y])
       . rw[V]at cK;have Ho:Hid ((if (B7 M).testBit (d5 s k) || !kpB g h (L.take (M.length+1)) (M++[d5 s k])then none else fiS g h L s f (M++[d5 s k]))=none):=zh (by rw[<-HY.o,V];simp);clear V;go_wp2_with fail;refine wl E ?_;(repeat(go_big_quiet_step(first|(go_at_call 293;with_reducible exact oa (cK _)))));exact zz93
       . rw[V]at cK;have Hs:Hid ((if (B7 M).testBit (d5 s k) || !kpB g h (L.take (M.length+1)) (M++[d5 s k])then none else fiS g h L s f (M++[d5 s k]))=fiS g h L s f (M++[Y])):=zh (by rw[<-HY.o,V,Ht.o];rfl);clear V;go_wp2_with fail;refine wl E ?_;(repeat(go_big_quiet_step(first|(go_at_call 293;with_reducible exact oa (cK _)))));refine zd fun W E=>?_;have ak:=i.trans E;have R:=fun W (D:Ext m W)=>Hb.o (M++[Y]) (.slice aN (M.length+1) cN) O W (HV.o _ (i.trans D)) (HU.o _ (i.trans D)) (q.o _ (i.trans D)) ((HN.o _ (I.trans D)).mono (hp.trans hx)) (hp.trans (i.trans D)) He.o Hi.o (by rw[Ha.o];omega) (by rw[Ha.o];omega);cases hr:fiS g h L s f (M++[Y])with
         |none =>
          rw[hr]at R Hs;go_wp2_with fail;refine(R _ E).mono ?_;rintro e w3⟨v3,Q,rfl,hw,hf,hj,hg⟩;clear hf hj R hr;go_wp2_with fail;go_roundw;exact⟨k+1,om,zg,hl.trans (j.trans (I.trans (E.trans hg))),zh fun K hi=>by by_cases e:K=k;(subst e;exact Hs.o);exact X.o K om⟩;exact zm1
         |some N =>
          rw[hr]at R Hs;have Hf:Hid (fiS g h L s (f+1) M=some N):=zh (by rw[HF.o];exact cr9 U X.o Hs.o);go_wp2_with fail;refine(R _ E).mono ?_;rintro e w3⟨v3,Q,rfl,hw,hf,hj,hg⟩;have HZ:=zh (hf N rfl);have hV:=F.trans (i.trans (E.trans hg));clear hf hj R hr;go_wp2_with fail;rw[<-Hd.o,Hf.o];exact br (.tuple #[v3,.bool true]) ⟨_,Q,rfl,hw,fun N' e=>by cases e;exact HZ.o,fun _ e=>by simp at e,hV⟩
     . rw[A]at S;simp only[Bool.not_true]at S;have Ho:Hid ((if (B7 M).testBit (d5 s k) || !kpB g h (L.take (M.length+1)) (M++[d5 s k])then none else fiS g h L s f (M++[d5 s k]))=none):=zh (by rw[<-HY.o,A];rfl);clear A;go_wp2_with fail;refine cm (S _ (er _)) fun m I=>?_;have E:=er m;go_wp2_with fail;refine wl E ?_;(repeat(go_big_quiet_step(first|(fail "no call"))));exact zz93
  . have hO:k=s.length:=om;have Hn:Hid (fiS g h L s (f+1) M=none):=zh (by rw[HF.o];exact cb7 fun K hi=>X.o K om);have hQ:=z.trans E;have ah:Own 3 O (wr.alloc (.cells #[] 3)) (.slice (some (aD wr.heap.size 0)) 0 0) (b9 []):=(l9 (TI:=3) (n:=0) om E (b9 []) rfl).mono (hp.trans z);have ag:=(F.trans hQ).alloc (.cells #[] 3);clear hO;go_wp2_with fail;rw[<-Hd.o,Hn.o];exact br (.tuple #[.slice (some (aD wr.heap.size 0)) 0 0,.bool false]) ⟨_,[],rfl,ah,fun N e=>by simp at e,fun _ _=>rfl,ag⟩
def b01(x:LI):Bool:=(List.range x.length).all (fun j=>decide (j=0) || decide (nth x (j-1)<=nth x j))
theorem bz6(x:LI):b01 x=true↔∀j,0<j->j<x.length->nth x (j-1)<=nth x j:=by
 unfold b01;simp only[oC,ou,pG,decide_eq_true_eq];constructor;intro h j S H;rcases h j H with e|e
 omega;exact e;intro h j H;by_cases e:j=0;exact Or.inl e;exact Or.inr (h j om H)
theorem j44{x:LI}{j:Nat}(H:0<j)(J:j<x.length)(h:nth x j<nth x (j-1)):b01 x=false:=by
 rw[<-pg,bz6];intro a;have:=a j H J;omega
def q8(l x:LI):Bool:=x.all (M7 l)&&d7 l&&decide (x.length<=12)&&b01 x
theorem j40{x:LI}(V:k<x.length)(h:M7 l (nth x k)=false):q8 l x=false:=by
 have:x.all (M7 l)=false:=by
  rw[<-pg,oC];intro a;rw[a _ (b78 V)]at h;cases h
 unfold q8;rw[this];rfl
theorem jz8{x:LI}(H:0<k)(V:k<x.length)(h:nth x k<nth x (k-1)):q8 l x=false:=by
 unfold q8;rw[j44 H V h];simp
theorem j39(h:∀j,j<xs.length->M7 l (nth xs j)=true):q8 l xs=(d7 l&&decide (xs.length<=12)&&b01 xs):=by
 have:xs.all (M7 l)=true:=by
  rw[oC];intro x K;obtain⟨k,V,rfl⟩:=bg1 K;exact h k V
 unfold q8;rw[this];simp
theorem dz4:∀(s:LI),(∀x∈s,∃n:Nat,x=n)->∃X:LN,s=b9 X
 |[],_=>⟨[],rfl⟩
 |x :: s,h=>by
  obtain⟨n,H⟩:=h x zm
  obtain⟨X,u⟩:=dz4 s (fun y Y=>h y (by simp[Y]))
  exact⟨n :: X,by rw[H,u];simp[b9]⟩
theorem I9(h:q8 l s=true):∃X:LN,s=b9 X/\(∀x∈X,x<ord l)/\X.length<=12/\d7 l=true/\∀x∈X,x<24:=by
 simp only[q8,ow,oC,decide_eq_true_eq]at h;obtain⟨⟨⟨o,r⟩,T⟩,_⟩:=h;obtain⟨X,rfl⟩:=dz4 s (fun x K=>by obtain⟨n,H,_⟩:=b94 (o x K);exact⟨n,H⟩);have K:∀x∈X,x<ord l:=fun x K=>by
  obtain⟨n,H,U,_⟩:=b94 (o (x:Int) (by simp[b9];exact⟨x,K,rfl⟩))
  have:x=n:=om
  omega
 exact⟨X,rfl,K,by simpa[d9]using T,r,fun x V=>nlt (K x V) (l8 r).2⟩
def L8(x:LI)(m k:Nat):LI:=((List.range k).filter (fun i=>m.testBit i)).map (nth x)
def S5(x:LI)(m:Nat):LI:=L8 x m x.length
theorem c97(h:m.testBit k=true):L8 xs m (k+1)=L8 xs m k++[nth xs k]:=by
 unfold L8;rw[oW,qd,pF];simp[h]
theorem cj2(h:m.testBit k=false):L8 xs m (k+1)=L8 xs m k:=by
 unfold L8;rw[oW,qd,pF];simp[h]
theorem br0(x:LI)(m k:Nat):(L8 x m k).length<=k:=by
 unfold L8;rw[oG];exact nle (qo _ _) zm
def B9(X:LN)(m:Nat):LN:=((List.range X.length).filter (fun i=>m.testBit i)).map (d5 X)
theorem d54(X:LN)(m:Nat):S5 (b9 X) m=b9 (B9 X m):=by
 unfold S5 L8 B9 b9;rw[oG,qQ];apply qA;intro i _;exact P7 X i
theorem b22{x:Nat}(h:x∈B9 X m):x∈X:=by
 unfold B9 at h;rw[pp]at h;obtain⟨i,J,rfl⟩:=h;exact m7 (ou.1 (qK.1 J).1)
theorem la6(X:LN)(m:Nat):(B9 X m).length<=X.length:=by
 unfold B9;rw[oG];exact nle (qo _ _) zm
theorem dj9(h:X.length<=24)(H:m<2^X.length):(B9 X m).length=cnt m:=by
 unfold B9;rw[oG];have:=T5 h H;unfold E2 at this;rw[this];rfl
def tot(l:LI)(X:LN):Nat:=X.foldl (fun s x=>j9 l s x) 0
theorem bl7(l:LI)(X:LN)(x:Nat):tot l (X++[x])=j9 l (tot l X) x:=by unfold tot;rw[oH];rfl
theorem bo1(h:d7 l=true)(X:LN):tot l X<24:=by
 rcases List.eq_nil_or_concat X with rfl|⟨Y,y,rfl⟩;show(0:Nat)<24;omega;rw[List.concat_eq_append,bl7];exact b14 h _ _
def zol(l:LI)(X:LN)(k:Nat):Option Nat:=(List.range (pw X.length)).find? (fun m=>decide (cnt m=k)&&decide (tot l (B9 X m)=0))
def d09(l:LI)(X:LN)(k:Nat):LN:=match zol l X k with|some m=>B9 X m|none=>[]
def bl9(l:LI)(X:LN)(k:Nat):Bool:=(zol l X k).isSome
theorem lz1(M:m<pw X.length)(h:∀j,j<m->¬(cnt j=k/\tot l (B9 X j)=0))(E:cnt m=k)(e:tot l (B9 X m)=0):d09 l X k=B9 X m/\bl9 l X k=true/\zol l X k=some m:=by
 have:zol l X k=some m:=bk0 M (fun j H=>by
  have:=h j H
  by_cases a:cnt j=k
  have b:¬tot l (B9 X j)=0:=fun b=>this ⟨a,b⟩
  simp[b]
  simp[a]) (by simp[E,e])
 unfold d09 bl9;rw[this];exact⟨rfl,rfl,rfl⟩
theorem lf1(h:∀j,j<pw X.length->¬(cnt j=k/\tot l (B9 X j)=0)):d09 l X k=[]/\bl9 l X k=false/\zol l X k=none:=by
 have:zol l X k=none:=bf5 (fun j H=>by
  have:=h j H
  by_cases a:cnt j=k
  have b:¬tot l (B9 X j)=0:=fun b=>this ⟨a,b⟩
  simp[b]
  simp[a])
 unfold d09 bl9;rw[this];exact⟨rfl,rfl,rfl⟩
def N9(l:LI)(X:LN):Nat->Nat
 |0=>0
 |c+1=>if c≠0/\tot l (B9 X c)=0/\(N9 l X c=0\/cnt c<cnt (N9 l X c))then c else N9 l X c
theorem j57(h:c≠0)(o:tot l (B9 X c)=0)(r:N9 l X c=0\/cnt c<cnt (N9 l X c)):N9 l X (c+1)=c:=by rw[N9,if_pos ⟨h,o,r⟩]
theorem lo8(h:¬(tot l (B9 X c)=0/\(N9 l X c=0\/cnt c<cnt (N9 l X c)))):N9 l X (c+1)=N9 l X c:=by rw[N9,if_neg (fun e=>h e.2)]
theorem ld1(l:LI)(X:LN):N9 l X 1=0:=by rw[N9,if_neg (fun e=>e.1 rfl)];rfl
theorem c01(l:LI)(X:LN):∀c,(N9 l X c=0/\∀m,m<c->m≠0->tot l (B9 X m)≠0) \/
 (N9 l X c≠0/\N9 l X c<c/\tot l (B9 X (N9 l X c))=0/\∀m,m<c->m≠0->tot l (B9 X m)=0->cnt (N9 l X c)<cnt m\/(cnt (N9 l X c)=cnt m/\N9 l X c<=m))
 |0=>Or.inl ⟨rfl,fun m M=>om⟩
 | c+1=>by
  have d:=c01 l X c
  by_cases h:c≠0/\tot l (B9 X c)=0/\(N9 l X c=0\/cnt c<cnt (N9 l X c))
  . rw[j57 h.1 h.2.1 h.2.2]
    refine Or.inr ⟨h.1,om,h.2.1,fun m M H t=>?_⟩
    by_cases e:m=c
    . subst e;exact Or.inr ⟨rfl,oc _⟩
    . rcases d with⟨i,I⟩|⟨i,I,Z,b⟩
      . exact absurd t (I m om H)
      . rcases h.2.2 with E|E
        . exact absurd E i
        . rcases b m om H t with q|q<;>omega
  . have e:N9 l X (c+1)=N9 l X c:=by rw[N9,if_neg h]
    rw[e]
    rcases d with⟨i,I⟩|⟨i,I,Z,b⟩
    . refine Or.inl ⟨i,fun m M H=>?_⟩
      by_cases e:m=c
      . subst e;exact fun t=>h ⟨H,t,Or.inl i⟩
      . exact I m om H
    . refine Or.inr ⟨i,om,Z,fun m M H t=>?_⟩
      by_cases e:m=c
      . subst e
        have:¬cnt m<cnt (N9 l X m):=fun q=>h ⟨H,t,Or.inr q⟩
        omega
      . exact b m om H t
def szN(l:LI)(X:LN):Nat:=N9 l X (pw X.length)
def bp2(X:LN)(b:Nat):LN:=if b=0 then []else B9 X b
def szR(l:LI)(X:LN):LN:=bp2 X (szN l X)
def szB(l:LI)(X:LN):Bool:=decide (szN l X≠0)
theorem ld0(H:X.length<=12)(C:b<2^X.length):(bp2 X b).length=cnt b:=by
 unfold bp2;by_cases h:b=0;rw[if_pos h,h,Z1];rfl;rw[if_neg h,dj9 om C]
theorem ds3(h:n<=24)(H:m<2^n):cnt m<=n:=by
 have:=T5 h H;unfold cnt;rw[<-this];exact bm3 m n
theorem m02(x:X.length<=12)(V:1<=k)(h:∀j,1<=j->j<k->bl9 l X j=false)(z:bl9 l X k=true):szR l X=d09 l X k/\szB l X=true:=by
 unfold bl9 at z;cases H:zol l X k with
 |none=>rw[H]at z;cases z
 | some m =>
  have M:=List.find?_some H;have r:=List.mem_of_find?_eq_some H;rw[ou]at r;simp only[ow,decide_eq_true_eq]at M;have S:m≠0:=fun e=>by rw[e,Z1]at M;omega
  have y:szN l X=m:=by
   rcases c01 l X (pw X.length)with⟨_,i⟩|⟨W,i,I,b⟩
   . exact absurd M.2 (i m r S)
   . have C:szN l X=N9 l X (pw X.length):=rfl;rw[<-C]at W i I b;have c:=U3 (a:=szN l X) om (by have:=ds3 (n:=X.length) (m:=szN l X) om i;exact nlt i (ot om om));rcases b m r S M.2 with q|q
     . have J:=h (cnt (szN l X)) c om;unfold bl9 zol at J;have:((List.range (pw X.length)).find? (fun m=>decide (cnt m=cnt (szN l X))&&decide (tot l (B9 X m)=0))).isSome=true:=by
        rw[List.find?_isSome];exact⟨szN l X,ou.2 i,by simp[I]⟩
       rw[this]at J;cases J
     . have L:m<=szN l X:=by
        rcases qq (szN l X) m with U|g
        . exfalso;unfold zol at H;rw[List.find?_range_eq_some]at H;have:=H.2.2 (szN l X) U;simp[I]at this;omega
        . exact g
       omega
  unfold szR bp2 szB d09;rw[y,if_neg S,H];exact⟨rfl,decide_eq_true S⟩
theorem lo9(x:X.length<=12)(h:∀j,1<=j->j<=X.length->bl9 l X j=false):szR l X=[]/\szB l X=false:=by
 have k:szN l X=0:=by
  rcases c01 l X (pw X.length)with⟨I,_⟩|⟨I,i,Z,b⟩;exact I;exfalso;have C:szN l X=N9 l X (pw X.length):=rfl;rw[<-C]at I i Z;have R:=ds3 (n:=X.length) (m:=szN l X) om i;have c:=U3 (a:=szN l X) om (nlt i (ot om om));have H:=h (cnt (szN l X)) c R;unfold bl9 zol at H;have:((List.range (pw X.length)).find? (fun m=>decide (cnt m=cnt (szN l X))&&decide (tot l (B9 X m)=0))).isSome=true:=by
   rw[List.find?_isSome];exact⟨szN l X,ou.2 i,by simp[Z]⟩
  rw[this]at H;cases H
 unfold szR bp2 szB;rw[k];exact⟨rfl,rfl⟩
def bb1(s:LI)(x:Int):Nat->Nat
 |0=>0
 |k+1=>if nth s k=x then bb1 s x k+1 else bb1 s x k
def c93(s:LI)(x:Int):Nat:=bb1 s x s.length
theorem c94(s:LI)(x:Int):∀k,bb1 s x k<=k
 |0=>oc _
 |k+1=>by
  have:=c94 s x k
  unfold bb1;split<;>omega
theorem dj0(h:nth s k=x):bb1 s x (k+1)=bb1 s x k+1:=by
 conv=>lhs;unfold bb1
 rw[if_pos h]
theorem dz2(h:nth s k≠x):bb1 s x (k+1)=bb1 s x k:=by
 conv=>lhs;unfold bb1
 rw[if_neg h]
def sbs(l:LI)(X:LN):Nat:=X.foldl (fun o x=>(o ||| j6 l o x) ||| 2^x) 0
theorem cz9(l:LI)(X:LN)(x:Nat):sbs l (X++[x])=(sbs l X ||| j6 l (sbs l X) x) ||| 2^x:=by unfold sbs;rw[oH];rfl
theorem bj1(h:d7 l=true):∀(X:LN),(∀x∈X,x<24)->sbs l X<2^24:=by
 intro X H;have:∀(X:LN) (o:Nat),o<2^24->(∀x∈X,x<24)->X.foldl (fun o x=>(o ||| j6 l o x) ||| 2^x) o<2^24:=by
  intro X;induction X with
  |nil=>intro o O _;exact O
  |cons x X ih =>
   intro o O H;rw[oR];refine ih _ (ox (ox O (K8 h o x)) (oJ om (H x zm))) fun y Y=>H y (by simp[Y])
 exact this X 0 (by decide) H
def zsB(l x:LI):Bool:=q8 l x&&decide (tot l (x.map Int.toNat)=0)
theorem d87{x:LI}(h:q8 l x=false):zsB l x=false:=by unfold zsB;rw[h];rfl
theorem c91(X:LN):(b9 X).map Int.toNat=X:=by
 unfold b9;rw[qQ];have:(Int.toNat ∘ fun n:Nat=>(n:Int))=id:=by funext n;rfl
 rw[this,List.map_id]
theorem de9(h:q8 l (b9 X)=true):zsB l (b9 X)=(((tot l X:Nat):Int) == 0):=by
 unfold zsB;rw[h,c91,qe,oA,decide_eq_true_iff,beq_iff_eq];omega
def zfB(l x:LI):Bool:=q8 l x && !(sbs l (x.map Int.toNat)).testBit 0
theorem l22{x:LI}(h:q8 l x=false):zfB l x=false:=by unfold zfB;rw[h];rfl
theorem ji9(h:q8 l (b9 X)=true):zfB l (b9 X) = !(sbs l X).testBit 0:=by
 unfold zfB;rw[h,c91,qe]
theorem da1(n:Nat):(((n%2:Nat):Int) == 0) = !n.testBit 0:=by
 rw[ps];rcases Nat.mod_two_eq_zero_or_one n with h|h<;>rw[h]<;>rfl
def N5(x:Int)(l:LI):LI:=(l.reverse.erase x).reverse
def T0(T:LI):LI->Bool
 |[]=>true
 |x :: P=>if x∈T then T0 (N5 x T) P else false
theorem c09(x y:Int)(l:LI)(_:x∈l):(N5 x l).count y=l.count y-if x=y then 1 else 0:=by
 unfold N5;rw[List.count_reverse,List.count_erase,List.count_reverse];congr 1;by_cases e:x=y<;>simp[e]
theorem j51:∀(P T:LI),T0 T P=true↔∀x,P.count x<=T.count x
 |[],T=>by simp[T0]
 | x :: P,T=>by
  unfold T0
  by_cases h:x∈T
  . rw[if_pos h,j51 P]
    have K:0<T.count x:=List.count_pos_iff.2 h
    constructor
    . intro H y
      have:=H y
      rw[c09 x y T h]at this
      rw[qt]
      by_cases e:x=y
      . subst e;simp at this|-;omega
      . have E:(x == y)=false:=by simpa using e
        rw[if_neg e]at this;simp[E];omega
    . intro H y
      have:=H y
      rw[qt]at this
      rw[c09 x y T h]
      by_cases e:x=y
      . subst e;simp at this|-;omega
      . have E:(x == y)=false:=by simpa using e
        rw[if_neg e];simp[E]at this;omega
  . rw[if_neg h]
    constructor
    . intro H;cases H
    . intro H
      have:=H x
      rw[qt]at this
      simp[List.count_eq_zero.2 h]at this
def b46(s:LI)(x:Int):Nat->Int
 |0=>-1
 |k+1=>if nth s k=x then(k:Int)else b46 s x k
theorem d44(h:nth s k=x):b46 s x (k+1)=(k:Int):=by
 conv=>lhs;unfold b46
 rw[if_pos h]
theorem di5(h:nth s k≠x):b46 s x (k+1)=b46 s x k:=by
 conv=>lhs;unfold b46
 rw[if_neg h]
theorem bj3(x:LI)(k:Nat)(V:k<x.length):x.take (k+1)=x.take k++[nth x k]:=by
 rw[qP];simp[nth,List.getD,V]
theorem c13(s:LI)(x:Int):∀k,k<=s.length->(b46 s x k = -1/\x ∉ s.take k) \/
 ∃a:Nat,b46 s x k=(a:Int)/\a<k/\N5 x (s.take k)=s.take a++(s.take k).drop (a+1)/\x∈s.take k
 |0,_=>Or.inl ⟨rfl,zm⟩
 | k+1,hk=>by
  by_cases h:nth s k=x
  . refine Or.inr ⟨k,d44 h,om,?_,?_⟩
    . rw[bj3 s k om,h]
      unfold N5
      rw[List.reverse_append]
      simp[List.drop_append,ol]
      omega
    . rw[bj3 s k om,h];simp
  . rw[di5 h]
    rcases c13 s x k om with⟨e,n⟩|⟨a,e,H,hd,m⟩
    . refine Or.inl ⟨e,?_⟩
      rw[bj3 s k om,oP,oE]
      rintro (o|o)
      . exact n o
      . exact h o.symm
    . refine Or.inr ⟨a,e,om,?_,?_⟩
      . rw[bj3 s k om]
        have l:(s.take k).length=k:=by rw[ol];omega
        rw[List.drop_append_of_le_length om,<-pr,<-hd]
        unfold N5
        rw[List.reverse_append,List.reverse_singleton,qL,List.erase_cons_tail (by simpa using fun e=>h e),List.reverse_cons]
      . rw[bj3 s k om];simp[m]
theorem ll3(h:b46 s x s.length<0):x ∉ s:=by
 rcases c13 s x _ (oc _)with⟨-,n⟩|⟨a,e,-,-,-⟩;simpa using n;omega
theorem l83(h:¬b46 s x s.length<0):∃a:Nat,b46 s x s.length=(a:Int)/\a<s.length/\N5 x s=s.take a++s.drop (a+1)/\x∈s:=by
 rcases c13 s x _ (oc _)with⟨e,-⟩|⟨a,e,H,hd,m⟩;omega;rw[oz]at hd m;exact⟨a,e,H,hd,m⟩
theorem de0{P:LI}(h:x ∉ T):T0 T (x :: P)=false:=by unfold T0;rw[if_neg h]
theorem d06{P:LI}(h:x∈T):T0 T (x :: P)=T0 (N5 x T) P:=by
 conv=>lhs;unfold T0
 rw[if_pos h]
open Go.RowKit
def TB(b:Bool)(e:Ending):Prop:=∃v,e=.returned (.tuple #[v,.bool b])
theorem TB.mk(b:Bool):TB b (.returned (.tuple #[v,.bool b])):=⟨v,rfl⟩
def br4(Q:Option Addr)(n c k:Nat):Value:=.slice (if c=k then Q else Q.map (·.add k)) (n-k) (c-k)
theorem T6(h:P.underlying t=some (.slice (P.elem t)))(S:∀w,(sizeOf (P.elem t)).run P w=.ok 1 w)(Q:Option Addr)(n c:Nat)(k:Int)(K:0<=k)(V:k<=n)(W:World):(Instr.slice t (.slice Q n c) (some (vi k)) none none).run P W=.ok (br4 Q n c k.toNat) W:=by
 rw[run_slice_l (ht:=h) (h0:=K) (h1:=V),S];simp[Result.andThen,sliced,br4]
theorem S6(H:P.underlying t=some (.slice (P.elem t)))(S:∀w,(sizeOf (P.elem t)).run P w=.ok 1 w)(Q:Option Addr)(n c:Nat)(k:Int)(K:0<=k)(V:k<=n)(W:World):(Instr.sliceAt t (.slice Q n c) (some (vi k)) none none).run P W=.ok (br4 Q n c k.toNat) W:=by
 rw[run_sliceAt_slice (h:=H),T6 H S Q n c k K V]
theorem c8.drop(h:c8 w (.slice Q n c) l)(V:k<=l.length):c8 w (br4 Q n c k) (l.drop k):=by
 obtain⟨A,x,v,o,r,T⟩:=h;simp only[Value.slice.injEq]at v;obtain⟨rfl,rfl,rfl⟩:=v;have H:(l.drop k).length=l.length-k:=pc;refine⟨_,c-k,by rw[H];rfl,by rw[H];omega,by rw[H];omega,fun i J=>?_⟩;rw[H]at J;obtain⟨a,rfl,C⟩:=T (k+i) om;refine⟨a.add k,by rw[if_neg om];rfl,?_⟩;rw[show(a.add k).add i=a.add (k+i) by unfold Addr.add;by_cases o:k=0<;>by_cases r:i=0<;>simp[o,r,qb],C];simp[nth,List.getD,List.getElem?_drop]
def MiP(P:World)(T:LI)(s:Value)(w:World):Prop:=∃Q c,s=.slice Q T.length c/\Own 3 P w (.slice Q T.length c) T/\Ext P w
theorem MiP.of{P:World}{A B:LI}{s:Value}(h:N7 3 P P w s (A++B))(E:Ext P w):MiP P (A++B) s w:=by
 have r:=h.own (er P);obtain⟨Q,c,rfl,-⟩:=r.shape;exact⟨Q,c,rfl,r,E⟩
def jm5(r:Nat):Nat->Nat->Nat
 |0,e=>e
 |n+1,e=>if r.testBit e then jm5 r n (e+1)else e
def c14(r:Nat):Nat:=jm5 r 25 0
theorem ll4(r:R.testBit e=false):∀n i,i<=e->e<i+n->(∀j,i<=j->j<e->R.testBit j=true)->jm5 R n i=e:=by
 intro n;induction n with
 |zero=>intro i T h;omega
 |succ n ih =>
  intro i T h o;unfold jm5;by_cases J:i=e
  . subst J;rw[r];rfl
  . rw[o i (oc _) om];exact ih (i+1) om om fun j f H=>o j om H
theorem dc2(o:∀j,j<e->R.testBit j=true)(r:R.testBit e=false)(T:e<=24):c14 R=e :=
 ll4 r 25 0 om om fun j _ h=>o j h
theorem cy2(H:u<2^ord l)(h:∀j,j<e->u.testBit j=true)(E:ord l<=e):u=l6 l:=by
 apply oK;intro i;rw[by1];by_cases J:i<ord l;rw[h i om];simp[J];rw[W4 H om];simp[J]
def dF(l:LI)(u x:Nat):Nat:=j9 l (c14 u) (q7 l x)
theorem lz3(h:d7 l=true)(u x:Nat):dF l u x<ord l:=I4 l (m0 h) _ _
def tlS(l:LI)(a:Nat):Nat->Nat->Nat->Nat->LN
 |0,_,_,_=>[]
 |f+1,u,b,m=>if u=l6 l then [b]else
  (j3 a).foldl (fun (o:LN) (x:Nat)=>if o.length<m/\j6 l a (dF l u x) &&& u=0 then o++tlS l a f (u ||| j6 l a (dF l u x)) (b ||| 2^dF l u x) (m-o.length)else o) []
def U2(l:LI)(a f u b m k:Nat):LN:=((j3 a).take k).foldl (fun (o:LN) (x:Nat)=>if o.length<m/\j6 l a (dF l u x) &&& u=0 then o++tlS l a f (u ||| j6 l a (dF l u x)) (b ||| 2^dF l u x) (m-o.length)else o) []
theorem cb3(h:u=l6 l):tlS l a (f+1) u b m=[b]:=by unfold tlS;rw[if_pos h]
theorem lp5(h:u≠l6 l):tlS l a (f+1) u b m=U2 l a f u b m (j3 a).length:=by
 unfold tlS U2;rw[if_neg h,oz]
theorem bh8(V:k<(j3 a).length):(j3 a).take (k+1)=(j3 a).take k++[(j3 a)[k]]:=pa V
theorem l15(V:k<(j3 a).length)(H:(U2 l a f u b m k).length<m)(h:j6 l a (dF l u (j3 a)[k]) &&& u=0):U2 l a f u b m (k+1)=U2 l a f u b m k++tlS l a f (u ||| j6 l a (dF l u (j3 a)[k])) (b ||| 2^dF l u (j3 a)[k]) (m-(U2 l a f u b m k).length):=by
 unfold U2 at H|-;rw[bh8 V,oH];simp only[oR,py];rw[if_pos ⟨H,h⟩]
theorem ld9(V:k<(j3 a).length)(h:¬j6 l a (dF l u (j3 a)[k]) &&& u=0):U2 l a f u b m (k+1)=U2 l a f u b m k:=by
 unfold U2;rw[bh8 V,oH];simp only[oR,py];rw[if_neg fun e=>h e.2]
theorem jo5(h:¬(U2 l a f u b m k).length<m):∀d,U2 l a f u b m (k+d)=U2 l a f u b m k:=by
 intro d;induction d with
 |zero=>rfl
 | succ d ih =>
  rw[<-qb];by_cases V:k+d<(j3 a).length
  . rw[<-ih]at h|-;have e:U2 l a f u b m (k+d+1)=U2 l a f u b m (k+d):=by
     unfold U2 at h|-;rw[bh8 V,oH];simp only[oR,py];rw[if_neg fun e=>h e.1]
    rw[e]
  . rw[<-ih];unfold U2;rw[pE om,pE om]
theorem ld8(h:u≠l6 l)(V:k<=(j3 a).length)(H:k=(j3 a).length\/¬(U2 l a f u b m k).length<m):tlS l a (f+1) u b m=U2 l a f u b m k:=by
 rw[lp5 h];rcases H with rfl|H
 rfl;have:=jo5 H ((j3 a).length-k);rw[show k+((j3 a).length-k)=(j3 a).length by omega]at this;exact this
def tlI(l:LI)(a m:Nat):Nat->Nat->Nat->LN->LN
 |0,_,_,o=>o
 |f+1,u,b,o=>if u=l6 l then o++[b]else
  (j3 a).foldl (fun (o:LN) (x:Nat)=>if j6 l a (dF l u x) &&& u=0/\o.length<m then tlI l a m f (u ||| j6 l a (dF l u x)) (b ||| 2^dF l u x) o else o) o
def b70(l:LI)(a m f u b:Nat)(o:LN)(k:Nat):LN:=((j3 a).take k).foldl (fun (o:LN) (x:Nat)=>if j6 l a (dF l u x) &&& u=0/\o.length<m then tlI l a m f (u ||| j6 l a (dF l u x)) (b ||| 2^dF l u x) o else o) o
theorem j64(h:u=l6 l):tlI l a m (f+1) u b out=out++[b]:=by unfold tlI;rw[if_pos h]
theorem lp4(h:u≠l6 l):tlI l a m (f+1) u b o=b70 l a m f u b o (j3 a).length:=by
 unfold tlI b70;rw[if_neg h,oz]
theorem l13(V:k<(j3 a).length)(h:j6 l a (dF l u (j3 a)[k]) &&& u=0)(H:(b70 l a m f u b out k).length<m):b70 l a m f u b out (k+1)=tlI l a m f (u ||| j6 l a (dF l u (j3 a)[k])) (b ||| 2^dF l u (j3 a)[k]) (b70 l a m f u b out k):=by
 unfold b70 at H|-;rw[bh8 V,oH];simp only[oR,py];rw[if_pos ⟨h,H⟩]
theorem j65(V:k<(j3 a).length)(h:¬(j6 l a (dF l u (j3 a)[k]) &&& u=0/\(b70 l a m f u b o k).length<m)):b70 l a m f u b o (k+1)=b70 l a m f u b o k:=by
 unfold b70 at h|-;rw[bh8 V,oH];simp only[oR,py];rw[if_neg h]
theorem ly5(l:LI)(a m:Nat):∀f u b t,t.length<m->tlI l a m f u b t=t++tlS l a f u b (m-t.length):=by
 intro f;induction f with
 |zero=>intro u b t _;simp[tlI,tlS]
 | succ f ih =>
  intro u b t M;by_cases h:u=l6 l
  . rw[j64 h,cb3 h]
  . unfold tlI tlS;rw[if_neg h,if_neg h];have k:∀(L:LN) (O:LN),L.foldl (fun (t:LN) (x:Nat)=>if j6 l a (dF l u x) &&& u=0/\t.length<m then tlI l a m f (u ||| j6 l a (dF l u x)) (b ||| 2^dF l u x) t else t) (t++O) =
     t++L.foldl (fun (o:LN) (x:Nat)=>if o.length<m-t.length/\j6 l a (dF l u x) &&& u=0 then o++tlS l a f (u ||| j6 l a (dF l u x)) (b ||| 2^dF l u x) (m-t.length-o.length)else o) O:=by
     intro L;induction L with
     |nil=>intro O;rfl
     | cons x L ih2 =>
      intro O;simp only[oR];by_cases S:j6 l a (dF l u x) &&& u=0
      . by_cases H:O.length<m-t.length
        . rw[if_pos ⟨S,by rw[oh];omega⟩,if_pos ⟨H,S⟩,ih _ _ _ (by rw[oh];omega),pr,oh,show m-(t.length+O.length)=m-t.length-O.length by omega];exact ih2 _
        . rw[if_neg (by rw[oh];intro e;omega),if_neg fun e=>H e.1];exact ih2 _
      . rw[if_neg fun e=>S e.1,if_neg fun e=>S e.2];exact ih2 _
    have:=k (j3 a) [];simpa using this
theorem de7(H:d7 l=true)(M:a≠0)(A:a<2^ord l)(U:u<2^ord l)(d:Nat)(h:j6 l a d &&& u=0):u ||| j6 l a d<2^ord l/\cnt u<cnt (u ||| j6 l a d):=by
 have S:=b56 (m0 H) a d;have o:=ox U S;have p:=E7 H;refine⟨o,(c58 (nlt o p) (fun i J=>by rw[oN,J];rfl) fun e=>?_).2⟩;have c:cnt (j6 l a d)≠0:=by
  rw[bf2 H A];have:=U3 (pW M) (nlt A p);omega
 obtain⟨i,J⟩:=bh3 (ds4 c);have T:u.testBit i=true:=by rw[e,oN,J];simp
 have b:(j6 l a d &&& u).testBit i=true:=by rw[pC,J,T];rfl
 rw[h,pZ]at b;cases b
def R2(l:LI)(a m:Nat):LN:=tlS l a (ord l+1) a 1 m
theorem bt0(l:LI)(a:Nat):∀f u b m,1<=m->(tlS l a f u b m).length<=m:=by
 intro f;induction f with
 |zero=>intro u b m _;simp[tlS]
 | succ f ih =>
  intro u b m H;unfold tlS;split
  . simpa using H
  . have k:∀(L:LN) (S:LN),S.length<=m->(L.foldl (fun (o:LN) (x:Nat)=>if o.length<m/\j6 l a (dF l u x) &&& u=0 then o++tlS l a f (u ||| j6 l a (dF l u x)) (b ||| 2^dF l u x) (m-o.length)else o) S).length<=m:=by
     intro L;induction L with
     |nil=>intro S h;exact h
     |cons x L ih2 =>
      intro S h;simp only[oR];refine ih2 _ ?_;split
      . next h3=>have:=ih (u ||| j6 l a (dF l u x)) (b ||| 2^dF l u x) (m-S.length) om;rw[oh];omega
      . exact h
    exact k _ _ zm
def ftB(l:LI)(a:Int):Bool:=C8 l a && !(R2 l a.toNat 1).isEmpty
def ftV(l:LI)(a:Int):Int:=if ftB l a then(((R2 l a.toNat 1).headD 0:Nat):Int)else 0
theorem cn5{a:Int}(h:C8 l a=false):ftB l a=false/\ftV l a=0:=by
 have e:ftB l a=false:=by unfold ftB;rw[h];rfl
 exact⟨e,by unfold ftV;rw[e];rfl⟩
theorem dw6(h:R2 l n 1=[]):ftB l n=false/\ftV l n=0:=by
 have e:ftB l n=false:=by unfold ftB;rw[show((n:Int)).toNat=n from rfl,h];simp
 exact⟨e,by unfold ftV;rw[e];rfl⟩
theorem dw7(o:C8 l n=true){x:Nat}{L:LN}(h:R2 l n 1=x :: L):ftB l n=true/\ftV l n=(x:Int):=by
 have e:ftB l n=true:=by unfold ftB;rw[o,show((n:Int)).toNat=n from rfl,h];rfl
 exact⟨e,by unfold ftV;rw[e,show((n:Int)).toNat=n from rfl,h];rfl⟩
theorem di9(l:LI)(x y:Nat)(w:World)(h:c8 w v l)(R:Hid (d7 l=true))(K:x<16777216)(Y:y<24):Calls Tryz.prog 322 #[.agg #[v],vi x,vi y] w (RE w (vi (j9 l x (q7 l y):Nat))):=by
 obtain⟨B,Z,F,C,H,E,s⟩:=m04 42 h;clear h;have b:=fun U=>C _ (c9 B U);have n:q7 l y<16777216:=by have:=U5 l (m0 R.o) y;have:=(l8 R.o).2;omega
 go_in;go_wp2_with fail;rw[<-Z.o];refine wl E ?_;(repeat(go_big_quiet_step(first|(go_at_call 315;exact oa (bi4 _ _ _ _ (H _ (c9 B _)) (R) (om)))|(go_at_call 271;exact oa (O7 _ _ _ _ _ (H _ (c9 B _)) (R) (K) (n))))));refine zd fun W E=>?_;exact zz41
theorem ct4(l:LI)(a:Nat)(R:Hid (d7 l=true))(al:a≠0)(ha:a<2^ord l):∀(f u b m:Nat) (w:World),c8 w v l->ord l<cnt u+f->u<2^ord l->b<2^24->1<=m->m<=1000 ->
 Calls Tryz.prog 233 #[.agg #[v],vi a,vi (l6 l:Nat),vi u,vi b,vi m] w fun e w'=>∃v',e=.returned v'/\Own 3 w w' v' (b9 (tlS l a f u b m))/\Ext w w':=by
 intro f;induction f with
 |zero=>intro u b m w h hf A;have:=bf1 R.o A;omega
 | succ f ih =>
  intro u b m w h hf A hx az aB;have hV:=l8 R.o;have hC:=E7 R.o;have hM:a<2^24:=nlt ha hC;have aI:u<2^24:=nlt A hC;obtain⟨B,Z,F,C,H,E,Hz⟩:=m04 42 h;clear h;have Hh:=zh ih;clear ih;by_cases t:u=l6 l
  . have He:=zh (cb3 (l:=l) (a:=a) (f:=f) (b:=b) (m:=m) t);have hq:((u:Int) == (l6 l:Int))=true:=(by rw[t];simp);clear t;have hN:Own 3 w (B.alloc (.cells #[vi b] 3)) (.slice (some (aD B.heap.size 0)) 1 1) (b9 [b]):=l9 (TI:=3) (n:=1) om F (b9 [b]) rfl;rw[<-Hz.o,Z.o]at hN;have hJ:=F.alloc (.cells #[vi (b:Int)] 3);rw[Z.o]at hJ;go_in;go_wp2_with fail;go_ret;exact⟨_,rfl,by rw[He.o];exact hN,hJ⟩
  . have hq:((u:Int) == (l6 l:Int))=false:=(by rw[beq_eq_false_iff_ne];omega);have Hf:=zh t;clear t;obtain⟨wc,K⟩:=nq (B.alloc (.cells #[] 3));have ah:Blk wc B.heap.size 3 #[]:=(by rw[K];exact oq _ _ _);have ar:Ext B wc:=(by rw[K];exact E.alloc _);have Hc:=zh K;clear K;go_in;go_wp2_with fail;rw[<-Z.o];go_loop [13] (fun xv=>∃e:Nat,e<=ord l/\xv=vi e/\∀j,j<e->u.testBit j=true) (fun x=>ord l-(intOf x).toNat);exact⟨0,om,rfl,om⟩;case round =>
     obtain⟨e,he,rfl,M⟩:=hrel;have ac:=R0 (a:=u) (n:=e) om;have ht:=b16 (a:=u) (n:=e) om om;cases J:u.testBit e
     . rw[J] at ht;have an:e<ord l:=oU fun hn=>Hf.o (cy2 A M om);have ak:Hid (c14 u=e):=zh (dc2 M J om);clear M J;go_wp2_with fail;rw[<-Hc.o];clear ac ht;refine(L0 a hM _).mono ?_;rintro e1 G⟨v1,rfl,hL,z⟩;obtain⟨aL,cL,aA,rfl,hr,hs⟩:=hL.ints.nats;have hZ:=j2 (c:=cL) elI szI hr;have q:Ext B G:=ar.trans z;have hp:=sh q C;have g:=sh q H;have hG:N7 3 B G G (.slice (some (aD B.heap.size 0)) 0 0) []:=N7.start G ah z;clear hr C H hL;have hK:∀y∈j3 a,y<24:=fun y hy=>J5 hy;have hU:=D0 a;obtain⟨L,ho⟩:=nq (j3 a);rw[<-ho]at hs hZ hK hU|-;have P:=zh ho;clear ho;go_wp2_with fail;go_loopw [14,16] (fun ov i wr=>∃k:Nat,k<=L.length/\i=vi k/\N7 3 B G wr ov (b9 (U2 l a f u b m k))/\Ext G wr) (fun _ i _=>L.length-(intOf i).toNat);exact⟨0,om,rfl,hG,er _⟩;case round =>
        clear hG E;obtain⟨k,V,rfl,O,p⟩:=hrel;obtain⟨ab,cb,rfl,-⟩:=(O.own q).shape;obtain⟨I,Q⟩:=nq (U2 l a f u b m k);rw[<-Q]at O|-;rw[d9 I]at O|-;by_cases U:k<L.length/\I.length<m
        . obtain⟨U,af⟩:=U;have hm:k<(j3 a).length:=(by rw[<-P.o];exact U);have ai:=hK _ (m7 U);have Hl:Hid ((j3 a)[k]=d5 L k):=zh (by rw[P.o];simp[d5,List.getD,hm]);obtain⟨X,hX⟩:=nq (d5 L k);have hT:=fun UU=>hs k _ U (p.trans (c9 wr UU));rw[<-hX]at hT ai Hl;have av:=fun UU=>hp _ (p.trans (c9 wr UU));have am:q7 l X<16777216:=(by have:=U5 l (m0 R.o) X;omega);have hc:j9 l e (q7 l X)<24:=nlt (I4 l (m0 R.o) _ _) hV.2;have T:Hid (dF l u X=j9 l e (q7 l X)):=zh (by unfold dF;rw[ak.o]);obtain⟨d,hD⟩:=nq (j9 l e (q7 l X));have hA:=fun W (D:Ext wr W)=>G8 v l e (q7 l X) W (g _ (p.trans D)) R om am;rw[<-hD]at hA hc T;have ad:=K8 R.o a d;obtain⟨S,s⟩:=nq (j6 l a d);have hh:=fun W (D:Ext wr W)=>M4 v l a d W (g _ (p.trans D)) R hM hc;rw[<-s]at hh ad;have aE:b13 (S:Int) (u:Int)=((S &&& u:Nat):Int):=b95 om om;have aK:(I.length:Int)<(m:Int):=om;have E:=er wr;clear hX hD;cases hz:(((S &&& u:Nat):Int) == 0)
          . have N:Hid (U2 l a f u b m (k+1)=I):=zh (by
             rw[ld9 hm,Q];rw[Hl.o,T.o,<-s];rw[beq_eq_false_iff_ne]at hz;omega)
            clear Q s
            go_wp2_with fail
            refine wl E ?_;(repeat(go_big_quiet_step(first|(go_at_call 286;exact oa (b44 _ _ _ _ ((g _ (p.trans (c9 wr _)))) (R) (om)))|(go_at_call 220;exact oa (hA _ (c9 wr _))))));refine zd fun W E=>?_
            have aj:=p.trans E
            go_wp2_with(go_at_call 221;refine cm (hh _ E) fun w' Y=>?_;replace E:=E.trans Y;clear Y)
            go_roundw
            case rel=>exact⟨k+1,om,zg,by rw[N.o];exact O.ext E,p.trans E⟩
            case measure=>exact zm1
          . have hi:S &&& u=0:=(by rw[beq_iff_eq]at hz;omega);have hl:=de7 R.o al ha A d (by rw[<-s];exact hi);rw[<-s]at hl;have N:Hid (U2 l a f u b m (k+1)=I++tlS l a f (u ||| S) (b ||| 2^d) (m-I.length)):=zh (by
             have:=l15 (l:=l) (a:=a) (f:=f) (u:=u) (b:=b) (m:=m) hm (by rw[<-Q];exact af) (by rw[Hl.o,T.o,<-s];exact hi);rw[this,<-Q,Hl.o,T.o,<-s])
            have hv:b ||| 2^d<2^24:=ox hx (oJ om hc)
            have hR:=fun W (hI:c8 W v l)=>Hh.o (u ||| S) (b ||| 2^d) (m-I.length) W hI om hl.1 hv om om;have hP:=bt0 l a f (u ||| S) (b ||| 2^d) (m-I.length) om;obtain⟨YY,hY⟩:=nq (tlS l a f (u ||| S) (b ||| 2^d) (m-I.length));rw[<-hY]at hR hP N;have aH:ior (u:Int) (S:Int)=((u ||| S:Nat):Int):=R5 om om;have ax:=o6 (n:=d) om;have ay:=H9 hx hc;have hH:((m-I.length:Nat):Int)=(m:Int)-(I.length:Int):=om;rw[hH]at hR;have aG:IntKind.i64.wrap ((m:Int)-(I.length:Int))=(m:Int)-(I.length:Int):=(by apply oD;omega);have aa:(b9 I).length+(b9 YY).length<=17592186044416:=(by rw[d9,d9];omega);have Ht:Hid (b9 (I++YY)=b9 I++b9 YY):=zh (by simp[b9]);clear Q s hY hl hv hP hH hi;go_wp2_with fail;refine wl E ?_;(repeat(go_big_quiet_step(first|(go_at_call 286;exact oa (b44 _ _ _ _ ((g _ (p.trans (c9 wr _)))) (R) (om)))|(go_at_call 220;exact oa (hA _ (c9 wr _))))));refine zd fun W E=>?_;have aj:=p.trans E;go_wp2_with(go_at_call 221;refine cm (hh _ E) fun w2 Y=>?_;replace E:=E.trans Y;clear Y);have aw:=p.trans E;have aC:=(er w2).drew;(first|(go_region_held3 (fun W=>Ext G W/\W.cell? (aD w.heap.size 0)=some v) (exact⟨xq,hp _ xq⟩) (first|(go_at_call 233;((with_reducible refine od (hR _ (g _ xq)) ?_);rintro eH wa⟨vH,rfl,ap,hw⟩;have ag:=og (a:=G) xq hw;have aF:=og (a:=wr) xq hw))|(refine q9 slI rfl _ _ rfl B G _ _ _ _ (O.ext xq) ap.ints ag aa rfl rfl ?_;intro vA wA aq au aJ)))|(fail "the region"));go_wp2_with fail;go_roundw;exact⟨k+1,om,zg,by rw[N.o,Ht.o];exact aq,au⟩;exact zm1
        . have N:Hid (tlS l a (f+1) u b m=I):=zh (by
           rw[Q];exact ld8 Hf.o (by rw[<-P.o];exact V) (by rw[<-P.o,<-Q];omega))
          have hQ:=F.trans (q.trans p)
          have ae:=(O.own q).mono F
          clear Q O
          by_cases h1:k<L.length
          all_goals
           have r:k<L.length->¬(I.length:Int)<(m:Int):=om
           try replace r:=r h1
           clear U
           go_wp2_with fail
           go_ret
           exact⟨_,rfl,by rw[N.o];exact ae,hQ⟩
     . rw[J]at ht;have an:=L7 A J;go_wp2_with fail;go_round;exact⟨e+1,om,zg,fun j hj=>by by_cases ao:j=e;(subst ao;exact J);exact M j om⟩;exact zm1
end Go.Zz
