/- FindFreimanIso of the reference. -/
import Derived.Test.YtjhoafjeopcheaaGreatGr9
import Derived.StillTailTactics
set_option linter.all false
set_option maxHeartbeats 2000000
set_option maxRecDepth 8000
namespace Go.Zz
open Go.RowKit Go.Proofs
variable(v u:Value)(g h:LI)(i:Nat){f k n x c N a b fr:Nat}{W G e w:World}{l:LI}{L E M:LN}{P:Nat->Bool}
theorem bf4{g h:LI}{a b:Int}(e:ffC g h a b=false):ffR g h a b=none:=by unfold ffR;rw[e];rfl
theorem zz44{P:Prop}(h:P:=by go_wp2_with fail;rw[q.o.1,q.o.2];exact br (.tuple #[.slice (some (aD ((l).heap.size) 0)) 0 0,.bool false]) ⟨_,rfl,l9 (TI:=3) (n:=0) om (F.trans H) (b9 []) rfl,oQ (F.trans H) _⟩):P:=h
theorem zz116{P:Prop}(h:P:=by exact br (.tuple #[.slice (some (aD ((G).heap.size) 0)) 0 0,.bool false]) ⟨_,rfl,l9 (TI:=3) (n:=0) om (F.trans z) (b9 []) rfl,oQ (F.trans z) _⟩):P:=h
theorem cd1(a b:Int)(w:World)(hv:c8 w v g)(U:c8 w u h):Calls Tryz.prog 150 #[.agg #[v],.agg #[u],vi a,vi b] w fun e P=>∃S,e=.returned (.tuple #[S,.bool (ffB g h a b)])/\Own 3 w P S (b9 (ffL g h a b))/\Ext w P:=by
 obtain⟨B,m⟩:=nq ((w.alloc (.cells #[v] 42)).alloc (.cells #[u] 42));have F:Ext w B:=by rw[m];exact((er _).alloc _).alloc _
 have B0:Blk B w.heap.size 42 #[v]:=by rw[m];exact(oq _ _ _).alloc _
 have B1:Blk B (w.heap.size+1) 42 #[u]:=by rw[m];simpa using Blk.new (w.alloc (.cells #[v] 42)) 42 #[u]
 have b0:=B0.atc 0 rfl;have b1:=B1.atc 0 rfl;have HV:=zh (fun W (D:Ext B W)=>hv.ext (F.trans D));have HU:=zh (fun W (D:Ext B W)=>U.ext (F.trans D));have E:=er B;have Z:=zh m;clear hv U m B0 B1;have c:=fun W (D:Ext B W)=>L1 v g a W (HV.o W D);have x:=fun W (D:Ext B W)=>L1 u h b W (HU.o W D);cases J:j0 g a
 . have q:=zh (bq1 (bf4 (g:=g) (h:=h) (a:=a) (b:=b) (by unfold ffC;rw[J];rfl)));rw[J]at c;clear J x;go_in;go_wp2_with fail;rw[<-Z.o];refine cm (c _ E) fun G z=>?_;go_wp2_with fail;rw[q.o.1,q.o.2];exact zz116
 cases C:j0 h b
 . have q:=zh (bq1 (bf4 (g:=g) (h:=h) (a:=a) (b:=b) (by unfold ffC;rw[C];simp)));rw[J]at c;rw[C]at x;clear J C;go_in;go_wp2_with fail;rw[<-Z.o];refine cm (c _ E) fun G z=>?_;go_wp2_with fail;refine cm (x _ z) fun l I=>?_;have H:=z.trans I;exact zz44
 obtain⟨A,rfl,hb,hf,hg⟩:=l7 J;obtain⟨p,rfl,ha,hw,hj⟩:=l7 C;have i:Hid (ffC g h A p=(decide (cnt A=cnt p)&&decide (1<=cnt A/\cnt A<=5))):=zh (by unfold ffC;rw[J,C];rfl);rw[J]at c;rw[C]at x;clear J C;have X:=fun W=>o7 A hf W;have s:=fun W=>o7 p hw W;by_cases Q:¬cnt A=cnt p
 . have hp:((cnt A:Int) != (cnt p:Int))=true:=(by rw[bne_iff_ne];omega);have q:=zh (bq1 (bf4 (g:=g) (h:=h) (a:=A) (b:=p) (by rw[i.o,decide_eq_false Q];rfl)));clear Q;go_in;go_wp2_with fail;rw[<-Z.o];refine cm (c _ E) fun G z=>?_;go_wp2_with fail;refine cm (x _ z) fun l I=>?_;have H:=z.trans I;go_wp2_with fail;refine(X _).mono ?_;rintro e w3⟨rfl,rfl⟩;go_wp2_with fail;refine(s _).mono ?_;rintro e w3⟨rfl,rfl⟩;exact zz44
 have j:cnt A=cnt p:=Classical.not_not.1 Q;have hp:((cnt A:Int) != (cnt p:Int))=false:=by rw[j];simp
 have Hc:=zh j;clear Q j;have cN:=fun W=>P6 ((cnt A:Nat):Int) 1 5 W;have hn:inB ((cnt A:Nat):Int) 1 5=decide (1<=cnt A/\cnt A<=5):=by
  rw[oA,V2,decide_eq_true_iff];omega
 rw[hn]at cN;clear hn;by_cases Y:¬(1<=cnt A/\cnt A<=5)
 . have q:=zh (bq1 (bf4 (g:=g) (h:=h) (a:=A) (b:=p) (by rw[i.o,decide_eq_false Y];simp)));rw[decide_eq_false Y]at cN;clear Y;go_in;go_wp2_with fail;rw[<-Z.o];refine cm (c _ E) fun G z=>?_;go_wp2_with fail;refine cm (x _ z) fun l I=>?_;have H:=z.trans I;go_wp2_with fail;refine(X _).mono ?_;rintro e w3⟨rfl,rfl⟩;go_wp2_with fail;refine(s _).mono ?_;rintro e w3⟨rfl,rfl⟩;go_wp2_with fail;refine(X _).mono ?_;rintro e w3⟨rfl,rfl⟩;go_wp2_with fail;refine(cN _).mono ?_;rintro e w3⟨rfl,rfl⟩;exact zz44
 have d:=Classical.not_not.1 Y;clear Y;have L:(j3 A).length=cnt A:=rfl;have he:∀y∈j3 A,y<ord g:=fun y hy=>L7 hb (I0.1 hy).2;have HR:Hid (ffR g h A p=fiS g h (j3 A) (j3 p) (cnt A+1) []):=zh (by
  have hC:ffC g h (A:Int) (p:Int)=true:=by rw[i.o,decide_eq_true Hc.o,decide_eq_true d];rfl
  unfold ffR;rw[hC,lt4 _ _ _ _ _ _ zm];simp)
 rw[decide_eq_true d]at cN;have Hg:=zh hg;have Hh:=zh hj;have f:=fun K W (D:Ext B W) (hx:Ext K W) O (C:Blk W O 3 #[]) (hr:K.heap.size<=O) k (hL:c8 W k (b9 (j3 A))) =>
  jz2 v u g h (j3 A) k p Hg Hh (bm4 A) he (by rw[L];exact d.1) (by rw[L];exact d.2) ha (cnt A+1) [] _ K W (HV.o W D) (HU.o W D) hL (N7.own (wb:=K) (w0:=K) (Or.inl ⟨O,hr,rfl,rfl,C⟩) (er _)) hx List.nodup_nil zm zm (by rw[L];simp)
 have Hp:Hid (0<cnt A):=zh om;clear d he L hg hj hb ha;have T:∀(W:World) (V:Value) (M:LN),(∀N,fiS g h (j3 A) (j3 p) (cnt A+1) []=some N->M=N)->(([]:LN).length<(j3 A).length->fiS g h (j3 A) (j3 p) (cnt A+1) []=none->M=[])->M=ffL g h A p/\(fiS g h (j3 A) (j3 p) (cnt A+1) []).isSome=ffB g h A p:=fun W V M h1 r=>by
  unfold ffL ffB
  rw[HR.o]
  cases R:fiS g h (j3 A) (j3 p) (cnt A+1) []with
  |none=>exact⟨r Hp.o R,rfl⟩
  |some N=>exact⟨h1 N R,rfl⟩
 have HO:=zh T;clear T;obtain⟨RR,hR⟩:=nq ((fiS g h (j3 A) (j3 p) (cnt A+1) []).isSome);rw[<-hR]at f HO;clear hR;go_in;go_wp2_with fail;rw[<-Z.o];refine cm (c _ E) fun G z=>?_;go_wp2_with fail;refine cm (x _ z) fun l I=>?_;have H:=z.trans I;go_wp2_with fail;refine(X _).mono ?_;rintro e w3⟨rfl,rfl⟩;go_wp2_with fail;refine(s _).mono ?_;rintro e w3⟨rfl,rfl⟩;go_wp2_with fail;refine(X _).mono ?_;rintro e w3⟨rfl,rfl⟩;go_wp2_with fail;refine(cN _).mono ?_;rintro e w3⟨rfl,rfl⟩;clear c x X s cN;have c0:=sh H b0;have c1:=sh H b1;have ca:=fun W (D:Ext l W)=>f l W (H.trans D) D;clear f;go_wp2_with fail;first|(go_region_held3 (fun W=>Ext l W/\W.cell? (aD w.heap.size 0)=some v/\W.cell? (aD (w.heap.size+1) 0)=some u) (exact⟨xq,c0 _ xq,c1 _ xq⟩) (first|(go_at_call 151;(with_reducible refine od (L0 A hf _) ?_);rintro eH wL⟨k,rfl,hs,hk⟩;have ht:=og (a:=l) xq hk)|(go_at_call 238;have hD:=hs;(with_reducible refine od (ca _ xq _ (by repeat(first|(with_reducible assumption)|(with_reducible exact oq _ _ _)|(with_reducible apply qp)|(with_reducible apply qD)|(with_reducible refine Blk.ext ?_ hk))) (by first|exact oc _|exact ht.size|(simp;omega)) _ (hD.ints.ext xq)) ?_);rintro eF wF⟨V,M,rfl,hm,hh,hi,ho⟩;have hz:=og (a:=l) xq ho)))|(fail "the region")
 all_goals
  have HZ:=zh (HO.o wF V M hh hi)
  have hl:=F.trans (H.trans hz)
  clear hh hi
  go_wp2_with fail
  refine br (.tuple #[V,.bool RR]) ⟨V,by rw[HZ.o.2],by rw[<-HZ.o.1];exact hm.mono (F.trans H),hl⟩
def bi3(P:Nat->Bool)(N b fr:Nat):Nat:=B7 ((List.range N).filter (fun x=>decide (fr<=x)&&P (b ||| 2^x)))
theorem b30{i:Nat}:(bi3 P N b fr).testBit i=(decide (i<N)&&(decide (fr<=i)&&P (b ||| 2^i))):=by
 unfold bi3;rw[Q0,oA];simp[qK]
theorem dc0(P:Nat->Bool)(N b fr:Nat):bi3 P N b fr<2^N:=b77 fun _ K=>ou.1 (qK.1 K).1
def fsS(P:Nat->Bool)(N:Nat):Nat->Nat->Nat->Nat
 |0,b,_=>b
 |f+1,b,fr=>(j3 (bi3 P N b fr)).foldl (fun (e x:Nat)=>if cnt e<cnt (fsS P N f (b ||| 2^x) (x+1))then fsS P N f (b ||| 2^x) (x+1)else e) b
def fsI(P:Nat->Bool)(N:Nat):Nat->Nat->Nat->Nat->Nat × Int->Nat × Int
 |0,b,n,_,s=>if s.2<n then(b,n)else s
 |f+1,b,n,fr,s=>(j3 (bi3 P N b fr)).foldl (fun (s:Nat × Int) (x:Nat)=>fsI P N f (b ||| 2^x) (n+1) (x+1) s) (if s.2<n then(b,n)else s)
def M3(P:Nat->Bool)(N f b n fr:Nat)(s:Nat × Int)(k:Nat):Nat × Int:=(E2 (bi3 P N b fr) k).foldl (fun (s:Nat × Int) (x:Nat)=>fsI P N f (b ||| 2^x) (n+1) (x+1) s) (if s.2<n then(b,n)else s)
theorem jf8(h:N<=24)(f b n fr:Nat)(s:Nat × Int):fsI P N (f+1) b n fr s=M3 P N f b n fr s N:=by
 unfold M3;rw[T5 h (dc0 P N b fr)];rfl
theorem cf8(h:∀i,i<k->a.testBit i=false):E2 a k=[]:=by
 unfold E2;rw[List.filter_eq_nil_iff];intro i J;rw[h i (ou.1 J)];simp
theorem cs1{s:Nat × Int}:M3 P N f b n fr s fr=if s.2<n then(b,(n:Int))else s:=by
 unfold M3;rw[cf8 fun i J=>by rw[b30];simp;intro _ h;omega];rfl
theorem dh2{s:Nat × Int}(o:k<N)(r:fr<=k)(h:P (b ||| 2^k)=true):M3 P N f b n fr s (k+1)=fsI P N f (b ||| 2^k) (n+1) (k+1) (M3 P N f b n fr s k):=by
 unfold M3;rw[H5,show(bi3 P N b fr).testBit k=true by rw[b30,h];simp[o,r],if_pos rfl,oH];rfl
theorem dw3{s:Nat × Int}(h:P (b ||| 2^k)=false):M3 P N f b n fr s (k+1)=M3 P N f b n fr s k:=by
 unfold M3;rw[H5,show(bi3 P N b fr).testBit k=false by rw[b30,h];simp];simp
theorem c28(x i:Nat):(2^x).testBit i=decide (x=i):=pd
theorem c74(C:b<2^24)(K:x<24)(h:b.testBit x=false):cnt (b ||| 2^x)=cnt b+1:=by
 have o:=da4 (Sub.or_left b (2^x));have e:G2 (b ||| 2^x) b=2^x:=oK fun i=>by
  rw[S7,oN,c28]
  by_cases hi:x=i
  subst hi;simp[h]
  simp[hi]
 rw[e]at o;have r:j3 (2^x)=(List.range 24).filter (fun i=>decide (x=i)):=by unfold j3;congr 1;funext i;exact c28 x i
 have T:cnt (2^x)=1:=by
  unfold cnt;rw[r];have:∀n,x<n->((List.range n).filter (fun i=>decide (x=i))).length=1:=by
   intro n;induction n with
   |zero=>omega
   |succ n ih =>
    intro H;rw[oW,qd,oh];by_cases hxn:x=n
    . subst hxn;have:(List.range x).filter (fun i=>decide (x=i))=[]:=(by rw[List.filter_eq_nil_iff];intro i hi;have:=ou.1 hi;simp;omega);rw[this];simp
    . rw[ih om];simp[hxn]
  exact this 24 K
 omega
theorem lt6(P:Nat->Bool)(N:Nat)(n:N<=24):∀(f b fr:Nat) (s:Nat × Int),b<2^fr->fr<=N->fsI P N f b (cnt b) fr s=if s.2<cnt (fsS P N f b fr)then(fsS P N f b fr,(cnt (fsS P N f b fr):Int))else s:=by
 intro f;induction f with
 |zero=>intro b fr s _ _;rfl
 | succ f ih =>
  intro b fr s C F;unfold fsI fsS;have k:∀(L:LN),(∀x∈L,fr<=x/\x<N)->∀R,(L.foldl (fun (s:Nat × Int) (x:Nat)=>fsI P N f (b ||| 2^x) (cnt b+1) (x+1) s) (if s.2<cnt R then(R,(cnt R:Int))else s)) =
   (if s.2<cnt (L.foldl (fun (t x:Nat)=>if cnt t<cnt (fsS P N f (b ||| 2^x) (x+1))then fsS P N f (b ||| 2^x) (x+1)else t) R)then(L.foldl (fun (t x:Nat)=>if cnt t<cnt (fsS P N f (b ||| 2^x) (x+1))then fsS P N f (b ||| 2^x) (x+1)else t) R,(cnt (L.foldl (fun (t x:Nat)=>if cnt t<cnt (fsS P N f (b ||| 2^x) (x+1))then fsS P N f (b ||| 2^x) (x+1)else t) R):Int))else s):=by
   intro L;induction L with
   |nil=>intro _ R;rfl
   | cons x L ih2 =>
    intro h R;obtain⟨hx1,hx2⟩:=h x zm;have B:b.testBit x=false:=W4 C hx1;have J:b<2^24:=nlt C (ot om om);have c:=c74 J (show x<24 by omega) B;have I:b ||| 2^x<2^(x+1):=ox (nlt C (ot om om)) (oJ om om)
    simp only[oR];have e:=fun s=>ih (b ||| 2^x) (x+1) s I om;rw[c]at e;have E:fsI P N f (b ||| 2^x) (cnt b+1) (x+1) (if s.2<cnt R then(R,(cnt R:Int))else s) =
     (if s.2<cnt (if cnt R<cnt (fsS P N f (b ||| 2^x) (x+1))then fsS P N f (b ||| 2^x) (x+1)else R)then((if cnt R<cnt (fsS P N f (b ||| 2^x) (x+1))then fsS P N f (b ||| 2^x) (x+1)else R),(cnt (if cnt R<cnt (fsS P N f (b ||| 2^x) (x+1))then fsS P N f (b ||| 2^x) (x+1)else R):Int))else s):=by
     rw[e];generalize fsS P N f (b ||| 2^x) (x+1)=y;by_cases o:s.2<cnt R<;>by_cases r:cnt R<cnt y<;>by_cases T:s.2<cnt y<;>simp[o,r,T]<;>omega
    rw[E];exact ih2 (fun y H=>h y (by simp[H])) _
  refine k _ (fun x K=>?_) b;have:=(I0.1 K).2;rw[b30]at this;simp at this;omega
theorem d36(P:Nat->Bool)(N:Nat)(n:N<=24):∀(f b fr:Nat),b<2^24->fsS P N f b fr<2^24:=by
 intro f;induction f with
 |zero=>intro b fr h;exact h
 | succ f ih =>
  intro b fr h;unfold fsS;have k:∀(L:LN),(∀x∈L,x<24)->∀r,r<2^24->L.foldl (fun (e x:Nat)=>if cnt e<cnt (fsS P N f (b ||| 2^x) (x+1))then fsS P N f (b ||| 2^x) (x+1)else e) r<2^24:=by
   intro L;induction L with
   |nil=>intro _ r H;exact H
   |cons x L ih2 =>
    intro l r H;simp only[oR];refine ih2 (fun y Y=>l y (by simp[Y])) _ ?_;split
    . exact ih _ _ (ox h (oJ om (l x zm)))
    . exact H
  exact k _ (fun x K=>J5 K) b h
theorem d21(h:V6 l)(K:x<ord l):j9 l x 0=x:=by rw[E4];exact C9 l h x K
theorem lm4:(1:Nat).testBit i=decide (i=0):=by
 have:=c28 0 i;rw[show(2:Nat)^0=1 from rfl]at this;rw[this,oA];simp;exact eq_comm
structure Fw(S:Nat->Prop)(w w':World):Prop where
 os:w'.os=w.os
 tape:w'.tape=w.tape
 output:w'.output=w.output
 size:w.heap.size<=w'.heap.size
 block:∀k,k<w.heap.size->¬S k->w'.heap[k]?=w.heap[k]?
theorem Fw.refl(S:Nat->Prop)(w:World):Fw S w w:=⟨rfl,rfl,rfl,oc _,fun _ _ _=>rfl⟩
theorem Fw.trans{s:Nat->Prop}(h:Fw s w G)(k:Fw s G W):Fw s w W :=
 ⟨k.os.trans h.os,k.tape.trans h.tape,k.output.trans h.output,nle h.size k.size,fun i J S=>(k.block i (nlt J h.size) S).trans (h.block i J S)⟩
theorem Ext.fw(h:Ext w e)(S:Nat->Prop):Fw S w e:=⟨h.os,h.tape,h.output,h.size,fun k V _=>h.block k V⟩
theorem bn5{S:Nat->Prop}(h:S b)(w:World)(i:Nat)(v:Value):Fw S w (w.setCell (aD b i) v) :=
 ⟨rfl,rfl,rfl,zm,fun k _ V=>pQ _ _ _ _ (fun e=>V (by rw[e];exact h))⟩
theorem Fw.ext{s:Nat->Prop}{P:World}(h:Fw s w W)(E:Ext P w)(H:∀k,s k->P.heap.size<=k):Ext P W:=by
 have S:=E.size;refine⟨h.os.trans E.os,h.tape.trans E.tape,h.output.trans E.output,nle S h.size,fun k V=>?_⟩;rw[h.block k (nlt V S) fun e=>by have:=H k e;omega];exact E.block k V
theorem Fw.blk{S:Nat->Prop}(h:Fw S w e){T:TypeId}{s:Array Value}(B:Blk w c T s)(H:¬S c):Blk e c T s:=by
 unfold Blk;rw[h.block c B.lt H];exact B
def S3(a b c:Nat)(k:Nat):Prop:=k=a\/k=b\/k=c
theorem du3{f:FuncId}{n:Func}{c:Code}(h:Tryz.prog.funcs[f]?=some n)(m:(n.name == "runtime.NumGoroutine")=false)(C:n.body=some c)(a:Array Value)(W:World):(callFunc f a).run Tryz.prog W=.ok (.enter f a) W:=by
 have o:n.name ≠ "runtime.NumGoroutine" := by simpa using m
 simp[callFunc,h,o,C]
theorem Own.pop{I:TypeId}{P:World}{Q:Option Addr}{y:Int}(h:Own I P w (.slice Q (n+1) c) (l++[y]))(N:l.length=n):Own I P w (.slice Q n c) l:=by
 obtain⟨⟨o,r⟩,T⟩:=h;rw[oh]at T;rcases r with⟨v,z⟩|⟨g,cap,u,v,H,a,C,m,s,t⟩;simp at z;simp only[Value.slice.injEq,oh,oo]at v;obtain⟨rfl,-,rfl⟩:=v;refine⟨⟨zm,Or.inr ⟨g,c,u,by rw[N],H,a,by simp at C;omega,m,s,?_⟩⟩,by simp at T;omega⟩;have:=congrArg (List.take l.length) t;rw[qR]at this;simp at this|-;exact this
def Sm(a b:Nat)(o:Option Nat)(k:Nat):Prop:=k=a\/k=b\/some k=o
theorem Sm.old{o O:Option Nat}(h:Nw o w O)(V:k<w.heap.size)(S:Sm a b O k):Sm a b o k:=by
 rcases S with S|S|S;exact Or.inl S;exact Or.inr (Or.inl S);rcases h with h|h;exact Or.inr (Or.inr (by rw[<-h];exact S));have:=h k S.symm;omega
theorem Fw.transN{o O:Option Nat}(h:Fw (Sm a b o) w G)(n:Nw o w O)(k:Fw (Sm a b O) G W):Fw (Sm a b o) w W :=
 ⟨k.os.trans h.os,k.tape.trans h.tape,k.output.trans h.output,nle h.size k.size,fun i J S=>(k.block i (nlt J h.size) fun e=>S (Sm.old n J e)).trans (h.block i J S)⟩
theorem l57{g h:LI}(e:M.length=L.length):fiI g h L E (f+1) M=if ch7 g h L M then some M else none:=by
 conv=>lhs;unfold fiI
 rw[if_pos e]
theorem l58{g h:LI}(e:M.length≠L.length):fiI g h L E (f+1) M=E.findSome? (fun y=>if (B7 M).testBit y then none else fiI g h L E f (M++[y])):=by
 conv=>lhs;unfold fiI
 rw[if_neg e]
theorem jo9{y:Nat}(h:a.testBit y=false):G2 (a ||| 2^y) (2^y)=a:=oK fun i=>by
 rw[S7,oN,pd]
 by_cases e:y=i
 . subst e;simp[h]
 . simp[e]
theorem Nw.ne{o O:Option Nat}(h:Nw o w O)(n:o≠some b)(C:b<w.heap.size):O≠some b:=by
 rcases h with h|h;rw[h];exact n;intro e;have:=h b e;omega
theorem Nw.size{o O:Option Nat}(h:Nw o G O)(S:w.heap.size<=G.heap.size):Nw o w O:=by
 rcases h with h|h;exact Or.inl h;exact Or.inr fun k V=>nle S (h k V)
theorem l72(w:World)(b:Nat)(v:Value):w.heap.size<=(w.setCell (aD b 0) v).heap.size:=zm
theorem l63{o:Option Nat}(a b:Nat)(h:w.grownBy W o):Fw (Sm a b o) w W:=⟨h.os,h.tape,h.output,h.size,fun k V S=>h.block k V fun e=>S (Or.inr (Or.inr e))⟩
theorem le2(L s:LN)(aL aE:Option Addr)(cL cE:Nat)(Hg:Hid (d7 g=true))(Hh:Hid (d7 h=true))(ag:∀y∈L,y<24)(bB:L.length<=5)(aZ:∀y∈s,y<ord h)(bu:s.length<=24)
 (C:World) (B bL bG bH bA b bT:Nat) (hv:B≠b) (aF:bT≠B) (ax:bT≠b) (aB:C.heap.size<=B) (hZ:C.heap.size<=b) (fn:Value)
 (HL:∀W,Ext C W->W.cell? (aD bL 0)=some (.slice aL L.length cL)) (HG:∀W,Ext C W->W.cell? (aD bG 0)=some v) (HH:∀W,Ext C W->W.cell? (aD bH 0)=some u) (HA:∀W,Ext C W->W.cell? (aD bA 0)=some (.slice aE s.length cE))
 (l:Hid (∀W,Ext C W->c8 W v g/\c8 W u h/\c8 W (.slice aL L.length cL) (b9 L)/\c8 W (.slice aE s.length cE) (b9 s)))
 (aR:fn=.func (.func 203) #[] #[.pointer (some (aD B 0)),.pointer (some (aD bL 0)),.pointer (some (aD bG 0)),.pointer (some (aD bH 0)),.pointer (some (aD bA 0)),.pointer (some (aD b 0)),.pointer (some (aD bT 0))]) :
 ∀(f:Nat) (M:LN) (vM:Value) (w:World),M.length<=L.length->L.length<M.length+f->(∀y∈M,y<ord h)->Ext C w->Blk w B 40 #[vM]->Own 3 C w vM (b9 M)->vM.ownBlock≠some b->Blk w b 3 #[vi (B7 M:Nat)]->Blk w bT 121 #[fn] ->
 Calls Tryz.prog 203 #[.pointer (some (aD B 0)),.pointer (some (aD bL 0)),.pointer (some (aD bG 0)),.pointer (some (aD bH 0)),.pointer (some (aD bA 0)),.pointer (some (aD b 0)),.pointer (some (aD bT 0))] w fun e w' =>
  e=.returned (.bool (fiI g h L s f M).isSome)/\∃(m:Value) (u':Int),Blk w' B 40 #[m]/\Blk w' b 3 #[vi u']/\(fiI g h L s f M=none->u'=(B7 M:Nat))/\Own 3 C w' m (b9 ((fiI g h L s f M).getD M))/\Fw (Sm B b vM.ownBlock) w w'/\Nw vM.ownBlock w m.ownBlock:=by
 intro f;induction f with
 |zero=>intro M vM w h1 r;omega
 |succ f ih =>
 intro M vM w bs bz ai F hM O aC hw hT;have ap:=l8 Hh.o;have hG:∀y∈M,y<24:=fun y hy=>nlt (ai y hy) ap.2;have hg:=b77 hG;have am:=b47 O hT (by decide);have bk:=b47 O hM (by decide);obtain⟨aM,cM,rfl,-⟩:=O.shape;rw[d9]at O hM aC am bk|-;have Hc:=zh ih;clear ih;have kM:=hM.atc 0 rfl;have kl:=sh F HL;have kg:=sh F HG;have kh:=sh F HH;have ka:=sh F HA;have E:=er w;by_cases hl:M.length=L.length
 . have hq:(((M.length:Nat):Int) == ((L.length:Nat):Int))=true:=(by rw[hl];simp);have c1:=fun W (D:Ext w W)=>di2 v u g h _ _ L M W (l.o W (F.trans D)).1 (l.o W (F.trans D)).2.1 Hg Hh (l.o W (F.trans D)).2.2.1 (O.ext D).ints ag hG om om;have R:=fun W (D:Ext w W)=>di2 u v h g _ _ M L W (l.o W (F.trans D)).2.1 (l.o W (F.trans D)).1 Hh Hg (O.ext D).ints (l.o W (F.trans D)).2.2.1 hG ag om om;have HK:Hid (fiI g h L s (f+1) M=if kpB g h L M&&kpB h g M L then some M else none):=zh (l57 hl);have HB:=zh hM;have HU:=zh hw;have HO:=zh O;clear hl hM hw O hT;cases k1:kpB g h L M
   . rw[k1]at c1 HK;clear k1;go_in;go_wp2_with fail;refine cm (c1 _ E) fun G z=>?_;go_wp2_with fail;go_ret;exact⟨j1 (by rw[HK.o];rfl),_,_,HB.o.ext z,HU.o.ext z,fun _=>rfl,by rw[HK.o];exact HO.o.ext z,z.fw _,Nw.refl _ _⟩
   . rw[k1]at c1 HK;clear k1;cases k2:kpB h g M L
     all_goals
      rw[k2]at R HK
      clear k2
      go_in
      go_wp2_with fail
      refine(c1 _ E).mono ?_
      rintro e G⟨rfl,z⟩
      go_wp2_with fail
      refine(R _ z).mono ?_
      rintro e w2⟨rfl,I⟩
      have hm:=z.trans I
      go_wp2_with fail
      go_ret
      exact⟨j1 (by rw[HK.o];rfl),_,_,HB.o.ext hm,HU.o.ext hm,fun _=>rfl,by rw[HK.o];exact HO.o.ext hm,hm.fw _,Nw.refl _ _⟩
 . have hq:(((M.length:Nat):Int) == ((L.length:Nat):Int))=false:=(by rw[beq_eq_false_iff_ne];omega);have HF:Hid (fiI g h L s (f+1) M=s.findSome? (fun y=>if (B7 M).testBit y then none else fiI g h L s f (M++[y]))):=zh (l58 hl);have bx:M.length<L.length:=om;have Hd:=zh ai;have af:=(l.o C (er _)).2.2.2;obtain⟨bq,ca,bv,aH,ar,aq⟩:=af.nats;have bw:=j2 (c:=ca) elI szI ar;simp only[Value.slice.injEq]at aH;obtain⟨rfl,-,rfl⟩:=aH;have bi:∀k,Sm B b (Value.slice aM M.length cM).ownBlock k->C.heap.size<=k:=by
    rintro k (rfl|rfl|V)
    . exact aB
    . exact hZ
    . exact(O.blk k V.symm).1
   have aU:¬Sm B b (Value.slice aM M.length cM).ownBlock bT:=by
    rintro (V|V|V)
    . exact aF V
    . exact ax V
    . exact am V.symm
   have Hf:=zh hg;have HB:=zh hM;have HU:=zh hw;have HO:=zh O;have HE:=zh aq;clear hl af ar hM hw O aq;go_in;go_wp2_with fail;clear kM E;go_loopw [29] (fun iv wr=>∃(k:Nat) (m:Value),k<=s.length/\iv=vi k/\Blk wr B 40 #[m]/\Blk wr b 3 #[vi (B7 M:Nat)]/\Own 3 C wr m (b9 M)/\Fw (Sm B b (Value.slice aM M.length cM).ownBlock) w wr/\Nw (Value.slice aM M.length cM).ownBlock w m.ownBlock/\Hid (∀K,K<k->(if (B7 M).testBit (d5 s K)then none else fiI g h L s f (M++[d5 s K]))=none)) (fun iv _=>s.length-(intOf iv).toNat);exact⟨0,_,om,rfl,HB.o,HU.o,HO.o,Fw.refl _ _,Nw.refl _ _,zh om⟩;case round =>
    obtain⟨k,m,V,rfl,J,q,H,hF,hN,Ha⟩:=hrel;have he:=hF.ext F bi;have ho:=hF.blk hT aU;obtain⟨T,j,rfl,-⟩:=H.shape;rw[d9]at J H hN;have Z:=zh hF;have Hr:=zh hN;clear hF hN;have hX:=q.cell (i:=0) (v:=vi (B7 M:Nat)) rfl;by_cases U:k<s.length
    . have hJ:=aZ _ (m7 U);have ac:=HE.o k wr U he;obtain⟨Y,hY⟩:=nq (d5 s k);have HY:=zh hY;rw[<-hY]at ac hJ;clear hY;have al:Y<24:=nlt hJ ap.2;cases ht:(B7 M).testBit Y
      . have hn:=T2 (B7 M) Y hg om wr ht;have Ht:=zh ht;clear ht;have bl:=o6 (n:=Y) om;have bn:=H9 hg al;go_wp2_with(refine cm hn fun w' hD=>?_;subst hD);go_still_tail 4,(by kernel_rfl);change wpList _ _ _ _ _ (World.drew _);obtain⟨d,hP⟩:=nq (World.drew wr);have ha:Ext wr d:=(by rw[hP];exact(er _).drew);rw[<-hP];clear hP hX ac hn;have hC:=zh (Z.o.trans (ha.fw _));replace q:=q.ext ha;replace J:=J.ext ha;replace H:=H.ext ha;replace ho:=ho.ext ha;replace he:=he.trans ha;clear ha Z;obtain⟨Z,-⟩:∃x:Hid (Fw (Sm B b (Value.slice aM M.length cM).ownBlock) w d),x=hC:=⟨hC,rfl⟩;clear hC;have aW:=q.free 0;have kM:d.cell? (aD B 0)=some (.slice T M.length j):=J.cell (i:=0) rfl;have hX:=q.cell (i:=0) (v:=vi (B7 M:Nat)) rfl;have hu:(Value.slice T M.length j).ownBlock≠some b:=by
         rcases Hr.o with e|e
         . rw[e];exact aC
         . intro e2;have h1:=e b e2;have r:=HU.o.lt;omega
        have bg:=b47 H J (by decide);have bf:=b47 H ho (by decide);have au:Blk (d.setCell (aD b 0) (vi ((B7 M ||| 2^Y:Nat):Int))) b 3 #[vi ((B7 M ||| 2^Y:Nat):Int)]:=q.set 0 _;have hI:Blk (d.setCell (aD b 0) (vi ((B7 M ||| 2^Y:Nat):Int))) B 40 #[.slice T M.length j]:=J.other (by simpa using hv) _;have ak:=ho.other (p:=(aD b 0)) (by simpa using ax) (vi ((B7 M ||| 2^Y:Nat):Int));have ab:=(b39 b none d 0 (vi ((B7 M ||| 2^Y:Nat):Int))).own H hu (by cases hq:(Value.slice T M.length j).ownBlock with
         |none=>exact Or.inl rfl
         |some k=>exact Or.inr zm)
        have ad:=he.setCell (p:=(aD b 0)) hZ (vi ((B7 M ||| 2^Y:Nat):Int));have aJ:(b9 M).length<17592186044416:=(by rw[d9];omega);have k1:=hI.cell (i:=0) (v:=.slice T M.length j) rfl;have aO:=l72 d b (vi ((B7 M ||| 2^Y:Nat):Int));have ba:(d.setCell (aD b 0) (vi ((B7 M ||| 2^Y:Nat):Int))).heap.size=d.heap.size:=zm;go_wp2_with((at_builtin;(refine b33 slI rfl _ _ rfl C _ _ _ _ ab ad aJ rfl (by rw[ba];rfl) ?_;intro v2 w2 hc hi ah;rw[show b9 M++[(Y:Int)]=b9 (M++[Y]) by simp[b9]]at hc;have hh:=hI.grown hi (fun k V e=>bg (by rw[V,e]));have av:=au.grown hi (fun k V e=>hu (by rw[V,e]));have ao:=ak.grown hi (fun k V e=>bf (by rw[V,e]));have hc2:=hh.cell (i:=0) (v:=.slice T M.length j) rfl;have aT:=hh.free 0;obtain⟨A,R,rfl,-⟩:=hc.shape;rw[d9,oh,oo]at hc ah|-;have hL:=ao.other (p:=(aD B 0)) (by simpa using aF) (.slice A (M.length+1) R);have kb:=hL.cell (i:=0) (v:=fn) rfl;rw[aR]at kb)));have hA:Blk (w2.setCell (aD B 0) (.slice A (M.length+1) R)) B 40 #[.slice A (M.length+1) R]:=hh.set 0 _;have hV:=av.other (p:=(aD B 0)) (by simpa using hv.symm) (.slice A (M.length+1) R);have hz:=(b39 B none w2 0 (.slice A (M.length+1) R)).own hc (b47 hc hh (by decide)) (by cases hq:(Value.slice A (M.length+1) R).ownBlock with
         |none=>exact Or.inl rfl
         |some k=>exact Or.inr zm)
        have hp:=((bn5 (S:=Sm B b (Value.slice T M.length j).ownBlock) (Or.inr (Or.inl rfl)) d 0 (vi ((B7 M ||| 2^Y:Nat):Int))).trans (l63 B b hi)).trans (bn5 (Or.inl rfl) w2 0 (.slice A (M.length+1) R));have hK:Nw (Value.slice T M.length j).ownBlock d (Value.slice A (M.length+1) R).ownBlock:=ah.size aO;have aw:∀k,Sm B b (Value.slice T M.length j).ownBlock k->C.heap.size<=k:=by
         rintro k (rfl|rfl|V)
         . exact aB
         . exact hZ
         . exact(H.blk k V.symm).1
        have ae:=hp.ext he aw;have aG:=q.lt;have bb:=hK.ne hu aG;obtain⟨w3,hQ⟩:=nq (w2.setCell (aD B 0) (.slice A (M.length+1) R));rw[<-hQ]at hA hV hL hz hp ae kb|-;have He:=zh hQ;have hR:=Hc.o (M++[Y]) (.slice A (M.length+1) R) w3 zso zso (fun y hy=>by
         rw[oP,oE]at hy
         rcases hy with hy|rfl
         . exact Hd.o y hy
         . exact hJ) ae hA hz bb (by rw[cv5];exact hV) hL
        clear hQ hh av ao hc2 aT ak au hI ab hc hi ad k1 kM kb hA hV hz hX aW;have Hn:Hid ((if (B7 M).testBit (d5 s k)then none else fiI g h L s f (M++[d5 s k]))=fiI g h L s f (M++[Y])):=zh (by rw[<-HY.o,Ht.o];rfl);obtain⟨rr,hr⟩:=nq (fiI g h L s f (M++[Y]));rw[<-hr]at hR Hn;clear hr;refine hR.mono ?_;rintro e w4⟨rfl,v4,u4,hf,t,bc,hx,aA,an⟩;have hS:=hp.transN hK aA;have hj:=hK.trans hp.size an;clear hR aA an;cases rr with
        |some N =>
         have Hs:Hid (fiI g h L s (f+1) M=some N):=zh (by rw[HF.o];exact cr9 U Ha.o Hn.o);go_wp2_with fail;go_ret;exact⟨j1 (by rw[Hs.o];rfl),_,_,hf,t,fun e=>absurd e (by rw[Hs.o];simp),by rw[Hs.o];exact hx,Z.o.transN Hr.o hS,Hr.o.trans Z.o.size hj⟩
        | none =>
         have be:=bc rfl;subst be;rw[cv5]at t;have hb:Own 3 C w4 v4 (b9 (M++[Y])):=hx;clear hx;obtain⟨a,X,rfl,aS,-⟩:=hb.shape;rw[d9,oh,oo]at hb hf hj aS;have ay:=hj.ne hu aG;have az:=b47 hb hf (by decide);have bp:dn7 ((B7 M ||| 2^Y:Nat):Int) ((pw Y:Nat):Int)=((B7 M:Nat):Int):=by
          have h1:pw Y<2^24:=oJ om al;have r:B7 M ||| 2^Y<2^24:=ox hg h1
          rw[dh7 om om];rw[show G2 (B7 M ||| 2^Y) (pw Y)=B7 M from jo9 Ht.o]
         have k4:=t.cell (i:=0) (v:=vi ((B7 M ||| 2^Y:Nat):Int)) rfl;have f4:=t.free 0;have bo:=hS.ext he aw;go_wp2_with fail;go_still_tail 4,(by kernel_rfl);change wpList _ _ _ _ _ (World.drew _);obtain⟨Q,aa⟩:=nq (World.drew w4);have hs:Ext w4 Q:=(by rw[aa];exact(er _).drew);rw[<-aa];clear aa k4 f4;replace t:=t.ext hs;replace hf:=hf.ext hs;replace hb:=hb.ext hs;have k4:=t.cell (i:=0) (v:=vi ((B7 M ||| 2^Y:Nat):Int)) rfl;have f4:=t.free 0;have hH:=hf.other (p:=(aD b 0)) (by simpa using hv) (vi ((B7 M:Nat):Int));have bh:Blk (Q.setCell (aD b 0) (vi ((B7 M:Nat):Int))) b 3 #[vi ((B7 M:Nat):Int)]:=t.set 0 _;have k5:=hH.cell (i:=0) (v:=.slice a (M.length+1) X) rfl;have f5:=hH.free 0;have aK:=fun W=>U6 (P:=Tryz.prog) elI szI a (M.length+1) X (M.length:Int) om om W;have aN:=fun W=>Y0 (P:=Tryz.prog) elI szI a (M.length+1) X (M.length:Int) om om W;rw[show((M.length:Int)).toNat=M.length by omega]at aK aN;go_wp2_with fail;have aQ:Own 3 C Q (.slice a M.length X) (b9 M):=by
          rw[show b9 (M++[Y])=b9 M++[(Y:Int)] by simp[b9]]at hb;exact hb.pop (d9 M)
         have aV:(Value.slice a (M.length+1) X).ownBlock=(Value.slice a M.length X).ownBlock:=(by cases a<;>rfl);rw[aV]at hj ay az;have aY:=(b39 b none Q 0 (vi ((B7 M:Nat):Int))).own aQ ay (by cases hq:(Value.slice a M.length X).ownBlock with
          |none=>exact Or.inl rfl
          |some k=>exact Or.inr zm)
         have bd:=(b39 B none (Q.setCell (aD b 0) (vi ((B7 M:Nat):Int))) 0 (.slice a M.length X)).own aY az (by cases hq:(Value.slice a M.length X).ownBlock with
          |none=>exact Or.inl rfl
          |some k=>exact Or.inr zm)
         have aP:Blk ((Q.setCell (aD b 0) (vi ((B7 M:Nat):Int))).setCell (aD B 0) (.slice a M.length X)) B 40 #[.slice a M.length X]:=hH.set 0 _;have bj:=bh.other (p:=(aD B 0)) (by simpa using hv.symm) (.slice a M.length X);have aX:=((hS.trans (hs.fw _)).trans (bn5 (Or.inr (Or.inl rfl)) Q 0 (vi ((B7 M:Nat):Int)))).trans (bn5 (Or.inl rfl) (Q.setCell (aD b 0) (vi ((B7 M:Nat):Int))) 0 (.slice a M.length X));go_roundw;exact⟨k+1,_,om,zg,aP,bj,bd,Z.o.transN Hr.o aX,Hr.o.trans Z.o.size hj,zh fun K aj=>by by_cases e:K=k;(subst e;exact Hn.o);exact Ha.o K om⟩;exact zm1
      . have hn:=T2 (B7 M) Y hg om wr ht;have Ho:Hid ((if (B7 M).testBit (d5 s k)then none else fiI g h L s f (M++[d5 s k]))=none):=zh (by rw[<-HY.o,ht];rfl);clear ht;go_wp2_with(refine cm hn fun w' hD=>?_;subst hD);go_roundw;exact⟨k+1,_,om,zg,J,q,H,Z.o,Hr.o,zh fun K aj=>by by_cases e:K=k;(subst e;exact Ho.o);exact Ha.o K om⟩;exact zm1
    . have aI:k=s.length:=om;have Hb:Hid (fiI g h L s (f+1) M=none):=zh (by rw[HF.o];exact cb7 fun K aj=>Ha.o K om);clear aI;go_wp2_with fail;go_ret;exact⟨j1 (by rw[Hb.o];rfl),_,_,J,q,fun _=>rfl,by rw[Hb.o];exact H,Z.o,Hr.o⟩
theorem zz45{P:Prop}(h:P:=by go_wp2_with fail;rw[H.o.1,H.o.2];exact br (.tuple #[.slice (some (aD ((l).heap.size) 0)) 0 0,.bool false]) ⟨_,rfl,l9 (TI:=3) (n:=0) om (F.trans f) (b9 []) rfl,oQ (F.trans f) _⟩):P:=h
theorem cd8(a b:Int)(w:World)(hv:c8 w v g)(hu:c8 w u h):Calls Tryz.prog 87 #[.agg #[v],.agg #[u],vi a,vi b] w fun e w'=>∃v',e=.returned (.tuple #[v',.bool (ffB g h a b)])/\Own 3 w w' v' (b9 (ffL g h a b))/\Ext w w':=by
 obtain⟨B,q⟩:=nq ((w.alloc (.cells #[v] 42)).alloc (.cells #[u] 42));have F:Ext w B:=by rw[q];exact((er _).alloc _).alloc _
 have B0:Blk B w.heap.size 42 #[v]:=by rw[q];exact(oq _ _ _).alloc _
 have S:Blk B (w.heap.size+1) 42 #[u]:=by rw[q];simpa using Blk.new (w.alloc (.cells #[v] 42)) 42 #[u]
 have b0:=B0.atc 0 rfl;have b1:=S.atc 0 rfl;have HV:=zh (fun W (D:Ext B W)=>hv.ext (F.trans D));have HU:=zh (fun W (D:Ext B W)=>hu.ext (F.trans D));have E:=er B;have Z:=zh q;clear hv hu q B0 S;have c:=fun W (D:Ext B W)=>F9 v g a W (HV.o W D);have J:=fun W (D:Ext B W)=>F9 u h b W (HU.o W D);cases C:j0 g a
 . have H:=zh (bq1 (bf4 (g:=g) (h:=h) (a:=a) (b:=b) (by unfold ffC;rw[C];rfl)));rw[C]at c;clear C J;go_in;go_wp2_with fail;rw[<-Z.o];refine cm (c _ E) fun G z=>?_;go_wp2_with fail;rw[H.o.1,H.o.2];exact zz116
 cases K:j0 h b
 . have H:=zh (bq1 (bf4 (g:=g) (h:=h) (a:=a) (b:=b) (by unfold ffC;rw[K];simp)));rw[C]at c;rw[K]at J;clear C K;go_in;go_wp2_with fail;rw[<-Z.o];refine cm (c _ E) fun G z=>?_;go_wp2_with fail;refine cm (J _ z) fun l I=>?_;have f:=z.trans I;exact zz45
 obtain⟨A,rfl,hz,ho,hm⟩:=l7 C;obtain⟨p,rfl,hi,hj,hs⟩:=l7 K;have HC:Hid (ffC g h A p=(decide (cnt A=cnt p)&&decide (1<=cnt A/\cnt A<=5))):=zh (by unfold ffC;rw[C,K];rfl);rw[C]at c;rw[K]at J;clear C K;have X:=fun W=>C6 A ho W;have cY:=fun W=>C6 p hj W;by_cases R:¬cnt A=cnt p
 . have hx:((cnt A:Int) != (cnt p:Int))=true:=(by rw[bne_iff_ne];omega);have H:=zh (bq1 (bf4 (g:=g) (h:=h) (a:=A) (b:=p) (by rw[HC.o,decide_eq_false R];rfl)));clear R;go_in;go_wp2_with fail;rw[<-Z.o];refine cm (c _ E) fun G z=>?_;go_wp2_with fail;refine cm (J _ z) fun l I=>?_;have f:=z.trans I;go_wp2_with fail;refine(X _).mono ?_;rintro e w3⟨rfl,rfl⟩;go_wp2_with fail;refine(cY _).mono ?_;rintro e w3⟨rfl,rfl⟩;exact zz45
 have hb:cnt A=cnt p:=Classical.not_not.1 R;have hx:((cnt A:Int) != (cnt p:Int))=false:=by rw[hb];simp
 have Hc:=zh hb;clear R hb;have cN:=fun W=>H8 ((cnt A:Nat):Int) 1 5 W;have hn:inB ((cnt A:Nat):Int) 1 5=decide (1<=cnt A/\cnt A<=5):=by
  rw[oA,V2,decide_eq_true_iff];omega
 rw[hn]at cN;clear hn;by_cases Y:¬(1<=cnt A/\cnt A<=5)
 . have H:=zh (bq1 (bf4 (g:=g) (h:=h) (a:=A) (b:=p) (by rw[HC.o,decide_eq_false Y];simp)));rw[decide_eq_false Y]at cN;clear Y;go_in;go_wp2_with fail;rw[<-Z.o];refine cm (c _ E) fun G z=>?_;go_wp2_with fail;refine cm (J _ z) fun l I=>?_;have f:=z.trans I;go_wp2_with fail;refine(X _).mono ?_;rintro e w3⟨rfl,rfl⟩;go_wp2_with fail;refine(cY _).mono ?_;rintro e w3⟨rfl,rfl⟩;go_wp2_with fail;refine(X _).mono ?_;rintro e w3⟨rfl,rfl⟩;go_wp2_with fail;refine(cN _).mono ?_;rintro e w3⟨rfl,rfl⟩;exact zz45
 have he:=Classical.not_not.1 Y;clear Y;have hl:(j3 A).length=cnt A:=rfl;have hD:∀y∈j3 A,y<24:=fun y hy=>J5 hy;have hG:∀y∈j3 p,y<ord h:=fun y hy=>L7 hi (I0.1 hy).2;have HR:Hid (ffR g h A p=fiI g h (j3 A) (j3 p) (cnt A+1) []):=zh (by
  have hC:ffC g h (A:Int) (p:Int)=true:=by rw[HC.o,decide_eq_true Hc.o,decide_eq_true he];rfl
  unfold ffR;rw[hC];simp)
 rw[decide_eq_true he]at cN;have Hg:=zh hm;have Hh:=zh hs;have hJ:∀(fn:Fn) (first cap:Array Value) (w:World),(Instr.makeFunc fn first cap).run Tryz.prog w=.ok (.func fn first cap) w:=fun _ _ _ _=>rfl;have Hp:Hid ((j3 A).length<=5):=zh (by rw[hl];omega);clear he hl hm hs hz hi;go_in;go_wp2_with fail;rw[<-Z.o];refine cm (c _ E) fun G z=>?_;go_wp2_with fail;refine cm (J _ z) fun l I=>?_;have f:=z.trans I;go_wp2_with fail;refine(X _).mono ?_;rintro e w3⟨rfl,rfl⟩;go_wp2_with fail;refine(cY _).mono ?_;rintro e w3⟨rfl,rfl⟩;go_wp2_with fail;refine(X _).mono ?_;rintro e w3⟨rfl,rfl⟩;go_wp2_with fail;refine(cN _).mono ?_;rintro e w3⟨rfl,rfl⟩;clear c J X cY cN;go_wp2_with fail;refine(J1 A ho _).mono ?_;rintro e w4⟨vL,rfl,hL,ht⟩;go_wp2_with fail;refine(J1 p hj _).mono ?_;rintro e s⟨vE,rfl,ha,hh⟩;obtain⟨aL,cL,rfl,-⟩:=hL.shape;obtain⟨aE,cE,rfl,-⟩:=ha.shape;rw[d9]at hL;rw[d9]at ha;rw[d9,d9];have HL:=zh (hL.ext hh);have HE:=zh ha;clear hL ha;go_wp2_with fail;obtain⟨M,U⟩:=nq (s.alloc (.cells #[.slice aL (j3 A).length cL] 40));obtain⟨x,r⟩:=nq (M.alloc (.cells #[.slice aE (j3 p).length cE] 40));obtain⟨O,T⟩:=nq (x.alloc (.cells #[] 3));obtain⟨P,d⟩:=nq (O.alloc (.cells #[.slice (some (aD (s.heap.size+1+1) 0)) 0 0] 40));obtain⟨Q,m⟩:=nq (P.alloc (.cells #[vi 0] 3));obtain⟨x6,L⟩:=nq (Q.alloc (.cells #[.func (.func 203) #[] #[.pointer (some (aD (s.heap.size+1+1+1) 0)),.pointer (some (aD s.heap.size 0)),.pointer (some (aD w.heap.size 0)),.pointer (some (aD (w.heap.size+1) 0)),.pointer (some (aD (s.heap.size+1) 0)),.pointer (some (aD (s.heap.size+1+1+1+1) 0)),.pointer (some (aD (s.heap.size+1+1+1+1+1) 0))]] 121));rw[<-U,<-r,<-T,<-d,<-m,<-L];have s1:M.heap.size=s.heap.size+1:=by rw[U];simp
 have s2:x.heap.size=s.heap.size+1+1:=by rw[r];simp[s1]
 have s3:O.heap.size=s.heap.size+1+1+1:=by rw[T];simp[s2]
 have s4:P.heap.size=s.heap.size+1+1+1+1:=by rw[d];simp[s3]
 have s5:Q.heap.size=s.heap.size+1+1+1+1+1:=by rw[m];simp[s4]
 have eh:Ext s M:=by rw[U];exact(er _).alloc _
 have ed:Ext M x:=by rw[r];exact(er _).alloc _
 have eg:Ext x O:=by rw[T];exact(er _).alloc _
 have ee:Ext O P:=by rw[d];exact(er _).alloc _
 have eb:Ext P Q:=by rw[m];exact(er _).alloc _
 have ea:Ext Q x6:=by rw[L];exact(er _).alloc _
 have S:Blk M s.heap.size 40 #[.slice aL (j3 A).length cL]:=by rw[U];exact oq _ _ _
 have B2:Blk x (s.heap.size+1) 40 #[.slice aE (j3 p).length cE]:=by rw[r,<-s1];exact oq _ _ _
 have O3:Own 3 x O (.slice (some (aD (s.heap.size+1+1) 0)) 0 0) []:=by rw[T,<-s2];exact l9 (TI:=3) (n:=0) om (er x) [] rfl
 have B4:Blk P (s.heap.size+1+1+1) 40 #[.slice (some (aD (s.heap.size+1+1) 0)) 0 0]:=by rw[d,<-s3];exact oq _ _ _
 have B5:Blk Q (s.heap.size+1+1+1+1) 3 #[vi 0]:=by rw[m,<-s4];exact oq _ _ _
 have B6:Blk x6 (s.heap.size+1+1+1+1+1) 121 #[.func (.func 203) #[] #[.pointer (some (aD (s.heap.size+1+1+1) 0)),.pointer (some (aD s.heap.size 0)),.pointer (some (aD w.heap.size 0)),.pointer (some (aD (w.heap.size+1) 0)),.pointer (some (aD (s.heap.size+1) 0)),.pointer (some (aD (s.heap.size+1+1+1+1) 0)),.pointer (some (aD (s.heap.size+1+1+1+1+1) 0))]]:=by rw[L,<-s5];exact oq _ _ _
 have ec:=eh.trans ed;have ei:=eg.trans (ee.trans eb);have ef:=ei.trans ea;have j:=f.trans (ht.trans (hh.trans ec));have HB:=zh j;have Ha:=zh L;clear U r T d m L
 have cT:=le2 v u g h (j3 A) (j3 p) aL aE cL cE Hg Hh hD Hp.o hG (D0 p) x (s.heap.size+1+1+1) s.heap.size w.heap.size (w.heap.size+1) (s.heap.size+1) (s.heap.size+1+1+1+1) (s.heap.size+1+1+1+1+1) om om om om om _
  (fun W D=>((S.ext ed).ext D).cell (i:=0) rfl) (fun W D=>b0 W (j.trans D)) (fun W D=>b1 W (j.trans D)) (fun W D=>(B2.ext D).cell (i:=0) rfl) (zh fun W D=>⟨HV.o W (j.trans D),HU.o W (j.trans D),(HL.o.ext (ec.trans D)).ints,(HE.o.ext (ec.trans D)).ints⟩) rfl
  (cnt A+1) [] _ x6 zm (by simp[cnt]) zm ef (B4.ext (eb.trans ea)) (O3.ext (ee.trans (eb.trans ea))) (by simp[Value.ownBlock]) (B5.ext ea) B6
 obtain⟨rr,hr⟩:=nq (fiI g h (j3 A) (j3 p) (cnt A+1) []);rw[<-hr]at cT HR;clear hr;refine cT.mono ?_;rintro e w7⟨rfl,v7,u7,hp,-,-,hg,hq,-⟩;have hw:Ext x w7:=hq.ext ef (by
  rintro k (rfl|rfl|V);omega;omega;simp[Value.ownBlock]at V;omega)
 have hf:=F.trans (j.trans hw);clear hq cT;cases rr with
 |none =>
  have H:=zh (bq1 HR.o);go_wp2_with fail;rw[H.o.1,H.o.2];exact br (.tuple #[.slice (some (aD w7.heap.size 0)) 0 0,.bool false]) ⟨_,rfl,l9 (TI:=3) (n:=0) om hf (b9 []) rfl,oQ hf _⟩
 |some N =>
  have H:=zh (lt2 HR.o);obtain⟨a7,c7,rfl,-⟩:=hg.shape;have hI:Own 3 x w7 (.slice a7 (b9 N).length c7) (b9 N):=hg;have hH:Blk w7 (s.heap.size+1+1+1) 40 #[.slice a7 (b9 N).length c7]:=hp;have k7:=hH.cell (i:=0) (v:=.slice a7 (b9 N).length c7) rfl;clear hg hp;go_wp2_with fail;rw[H.o.1,H.o.2];exact br (.tuple #[.slice a7 (b9 N).length c7,.bool true]) ⟨_,rfl,hI.mono (F.trans j),hf⟩
end Go.Zz
