/- What stays where a call writes into one box and grows the slice that lies in it. -/
import Derived.Laws.OwnMore
import Derived.Test.YtjhoafjeopcheaaGreatGr8
import Derived.Laws.EntriesVeiled
set_option linter.all false
set_option maxHeartbeats 2000000
set_option maxRecDepth 20000
namespace Go.Zz
open Go.RowKit Go.Proofs
variable(v:Value)(l:LI){e G W w:World}{k b:Nat}
theorem jx3{TI:TypeId}{v:Value}{l:LI}(h:Own TI W w v l)(C:b<W.heap.size):v.ownBlock≠some b:=fun e=>by have:=(h.blk b e).1;omega
structure Fr(b:Nat)(o:Option Nat)(w w':World):Prop where
 os:w'.os=w.os
 tape:w'.tape=w.tape
 output:w'.output=w.output
 size:w.heap.size<=w'.heap.size
 block:∀k,k<w.heap.size->k≠b->some k≠o->w'.heap[k]?=w.heap[k]?
def Nw(o:Option Nat)(w:World)(O:Option Nat):Prop:=O=o\/∀k,O=some k->w.heap.size<=k
theorem Fr.refl(b:Nat)(o:Option Nat)(w:World):Fr b o w w:=⟨rfl,rfl,rfl,oc _,fun _ _ _ _=>rfl⟩
theorem Nw.refl(o:Option Nat)(w:World):Nw o w o:=Or.inl rfl
theorem Fr.trans{o O:Option Nat}(h:Fr b o w G)(n:Nw o w O)(k:Fr b O G W):Fr b o w W :=
 ⟨k.os.trans h.os,k.tape.trans h.tape,k.output.trans h.output,nle h.size k.size,fun i J C H=>by
  rw[k.block i (nlt J h.size) C fun e=>?_,h.block i J C H]
  rcases n with n|n
  . rw[n]at e;exact H e
  . have:=n i e.symm;omega⟩
theorem Nw.trans{o O d:Option Nat}(h:Nw o w O)(S:w.heap.size<=G.heap.size)(k:Nw O G d):Nw o w d:=by
 rcases k with k|k;rw[k];exact h;exact Or.inr fun i J=>nle S (k i J)
theorem Ext.fr(h:Ext w e)(b:Nat)(o:Option Nat):Fr b o w e:=⟨h.os,h.tape,h.output,h.size,fun k V _ _=>h.block k V⟩
theorem bu8{o:Option Nat}(h:w.grownBy e o):Fr b o w e:=⟨h.os,h.tape,h.output,h.size,fun k V _ H=>h.block k V H⟩
theorem b39(b:Nat)(o:Option Nat)(w:World)(i:Nat)(v:Value):Fr b o w (w.setCell (aD b i) v) :=
 ⟨rfl,rfl,rfl,zm,fun k _ C _=>pQ _ _ _ _ (fun e=>C e)⟩
theorem Fr.ext{o:Option Nat}{R:World}(h:Fr b o w R)(E:Ext W w)(C:W.heap.size<=b)(H:∀k,o=some k->W.heap.size<=k):Ext W R:=by
 have S:=E.size;refine⟨h.os.trans E.os,h.tape.trans E.tape,h.output.trans E.output,nle S h.size,fun k V=>?_⟩;rw[h.block k (nlt V S) om fun e=>by have:=H k e.symm;omega];exact E.block k V
theorem Fr.blk{o:Option Nat}(h:Fr b o w W){c:Nat}{T:TypeId}{s:Array Value}(B:Blk w c T s)(H:c≠b)(O:o≠some c):Blk W c T s:=by
 unfold Blk;rw[h.block c B.lt H fun e=>O e.symm];exact B
theorem Fr.own{o:Option Nat}(h:Fr b o w e){TI:TypeId}{w0:World}{v:Value}{l:LI}(O:Own TI w0 w v l)(U:v.ownBlock≠some b)(r:v.ownBlock=none\/v.ownBlock≠o):Own TI w0 e v l:=by
 obtain⟨⟨L,R⟩,n⟩:=O;refine⟨⟨L,?_⟩,n⟩;rcases R with R|⟨g,cap,u,rfl,H,c,rest⟩;exact Or.inl R;refine Or.inr ⟨g,cap,u,rfl,H,?_,rest⟩;simp[Value.ownBlock]at U r;rw[h.block g (Array.getElem?_eq_some_iff.1 c).1 U r];exact c
theorem j26{P:Program}{T TI:TypeId}(t:IntSl P T TI)(Y:TypeId)(W w:World)(v:Value)(l:LI)(y:Int)(d:Addr)(O:Own TI W w v l)(E:Ext W w)(I:∀j u,[Value.int .i64 y][j]?=some u->w.cell? (d.add j)=some u)(n:l.length<17592186044416):∃R e,(Builtin.append_ #[T,T] Y #[v,.slice (some d) 1 1]).run P w=.ok R e/\Own TI W e R (l++[y])/\w.grownBy e v.ownBlock/\Nw v.ownBlock w R.ownBlock:=by
 obtain⟨i,J,z,s,b⟩:=t.info;have U:=O.1;rcases U.2 with⟨rfl,L⟩|⟨g,cap,C,rfl,H,c,N,M,S,K⟩;have x:l=[]:=oF L;subst x;obtain⟨R,e,h,f,r,-⟩:=run_append_own (P:=P) w w.heap.size T Y TI i (vi 0) 1 8 t.und J z s b rfl om (.slice none 0 0) 0 [] (World.ownsRow_nil _ _ _ _) d 1 1 [vi y] rfl I (by simp[Value.oneCell']) (by unfold maxLen;omega) om (oc _);have p:Own TI w e R [y]:=⟨by simpa using f,zm⟩;exact⟨R,e,h,by simpa using p.mono E,r,Or.inr fun k V=>(p.blk k V).1⟩;by_cases m:l.length+1<=cap;obtain⟨e,h,f,r⟩:=run_append_fits (P:=P) w W.heap.size T Y TI i 1 t.und J s g l.length cap _ U d 1 1 [vi y] rfl I (by simp[Value.oneCell']) m;exact⟨_,e,h,⟨by simpa using f,by simp;omega⟩,r,Or.inl rfl⟩;obtain⟨R,e,h,f,r⟩:=run_append_arg_grows (P:=P) (w:=w) T Y TI i (vi 0) 1 8 t.und J z s b rfl om (aD g 0) l.length cap (l.map (Value.int .i64)) zm (by
  intro j u A;have q:j<l.length:=(by have:=(List.getElem?_eq_some_iff.1 A).1;simpa using this);rw[pe,oM,World.ownsRow.cellAt U j om];simpa using A) d 1 1 [vi y] rfl I om (by unfold maxLen;omega) om
 have p:Own TI w e R (l++[y]):=⟨by simpa using f,by simp;omega⟩;exact⟨R,e,h,p.mono E,⟨r.os,r.tape,r.output,r.size,fun k V _=>r.block k V zm⟩,Or.inr fun k V=>(p.blk k V).1⟩
section
variable {P:Program} {ops:Array Oper} {rest:List Oper} {o:Oper} {a:Act} {Q:Exit->Act->World->Prop} {T TI:TypeId}
theorem b33(t:IntSl P T TI)(H:o.guard=none)(s x:Operand)(p:o.op=Op.call { callee:=Callee.builtin Builtin.append,args:=#[s,x],argTypes:=#[T,T] })
 (i W:World) (v:Value) (l:LI) (y:Int) (O:Own TI i W v l) (E:Ext i W) (n:l.length<17592186044416) (S:a.eval s=v) (K:a.eval x=.slice (some (aD W.heap.size 0)) 1 1)
 (X:∀R w,Own TI i w R (l++[y])->W.grownBy w v.ownBlock->Nw v.ownBlock W R.ownBlock->wpList P ops Q rest (a.put o.dst R) w) :
 wpList P ops Q (o :: rest) a (W.alloc (.cells #[vi y] TI)):=by
 obtain⟨R,w,u,U,r,h⟩:=j26 t o.type i (W.alloc (.cells #[vi y] TI)) v l y (aD W.heap.size 0) (O.alloc _) (E.alloc _) (cell_one_new _ _ _) n;refine wpList_plain H fun z j=>?_;unfold Oper.wp;simp[execOp,p,resolve,invoke,builtin,S,K,u,Result.andThen];have e:Ext W (W.alloc (.cells #[vi y] TI)):=(er W).alloc _;refine j _ _ (X R w U ⟨r.os.trans e.os,r.tape.trans e.tape,r.output.trans e.output,nle e.size r.size,fun k V N=>?_⟩ ?_)
 rw[r.block k (nlt V e.size) N];exact e.block k V;rcases h with h|h;exact Or.inl h;exact Or.inr fun k V=>nle e.size (h k V)
end
theorem ly6(a m:Nat)(R:Hid (d7 l=true))(aE:a≠0)(ha:a<2^ord l)(hm:m<=1000)(C:World)(bG B bA bM bT:Nat)(hM:B≠bT)(aF:C.heap.size<=B)(fn:Value)
 (HG:∀W,Ext C W->W.cell? (aD bG 0)=some v) (HA:∀W,Ext C W->W.cell? (aD bA 0)=some (vi a)) (HM:∀W,Ext C W->W.cell? (aD bM 0)=some (vi m)) (HI:Hid (∀W,Ext C W->c8 W v l))
 (ae:fn=.func (.func 321) #[] #[.pointer (some (aD bG 0)),.pointer (some (aD B 0)),.pointer (some (aD bA 0)),.pointer (some (aD bM 0)),.pointer (some (aD bT 0))]) :
 ∀(f u b:Nat) (w:World) (vo:Value) (t:LN),ord l<cnt u+f->u<2^ord l->b<2^24->t.length<m->Ext C w->Blk w B 40 #[vo]->Own 3 C w vo (b9 t)->Blk w bT 163 #[fn] ->
 Calls Tryz.prog 321 #[vi b,vi u,.pointer (some (aD bG 0)),.pointer (some (aD B 0)),.pointer (some (aD bA 0)),.pointer (some (aD bM 0)),.pointer (some (aD bT 0))] w fun e w' =>
  e=.returned (.tuple #[])/\∃Y,Blk w' B 40 #[Y]/\Own 3 C w' Y (b9 (tlI l a m f u b t))/\Fr B vo.ownBlock w w'/\Nw vo.ownBlock w Y.ownBlock:=by
 intro f;induction f with
 |zero=>intro u b w vo t hf hu;have:=bf1 R.o hu;omega
 | succ f ih =>
  intro u b w vo t hf hu hP aW F hb O hT;rw[ae]at hT;have ak:=l8 R.o;have hR:=E7 R.o;have ac:a<2^24:=nlt ha hR;have af:u<2^24:=nlt hu hR;have aa:=b47 O hT (by decide);have hY:=b47 O hb (by decide);obtain⟨p,co,rfl,-⟩:=O.shape;rw[d9]at O hb aa hY|-;rw[ae]at ih;have Hh:=zh ih;clear ih;by_cases hl:u=l6 l
  . have He:=zh (j64 (l:=l) (a:=a) (m:=m) (f:=f) (b:=b) (out:=t) hl);have hq:((u:Int) == (l6 l:Int))=true:=(by rw[hl];simp);have Hc:Hid (b9 (t++[b])=b9 t++[(b:Int)]):=zh (by simp[b9]);clear hl;have aj:(b9 t).length<17592186044416:=(by rw[d9];omega);have kO:=hb.atc 0 rfl;go_in
    go_wp2_with(first
     |(go_at_call 202;refine cm (J4 _ _ _ (HI.o _ F) R) fun G z=>?_)
     |(at_builtin;refine b33 slI rfl _ _ rfl C _ _ _ _ (O.ext z) (F.trans z) aj rfl rfl ?_;intro v2 w2 g hQ hV;have A:=hb.ext z;replace A:=A.grown hQ (fun k V e=>hY (by rw[V,e]));have hc2:=A.cell (i:=0) (v:=.slice p t.length co) rfl;have aV:=A.free 0;obtain⟨M,Z,rfl,-⟩:=g.shape;obtain⟨n2,hI⟩:∃n,n=(b9 t++[(b:Int)]).length:=⟨_,rfl⟩;rw[<-hI]at g hV|-;replace hI:=zh hI))
    have ax:=((z.fr B (Value.slice p t.length co).ownBlock).trans (Nw.refl _ _) (bu8 hQ)).trans (Nw.refl _ _) (b39 B _ w2 0 (.slice M n2 Z));have aw:Blk (w2.setCell (aD B 0) (.slice M n2 Z)) B 40 #[.slice M n2 Z]:=A.set 0 (.slice M n2 Z);have am:=(b39 B none w2 0 (.slice M n2 Z)).own g (b47 g A (by decide)) (by cases hq:(Value.slice M n2 Z).ownBlock with
     |none=>exact Or.inl rfl
     |some k=>exact Or.inr zm)
    exact bodyPost_ret (v:=.tuple #[]) (by simp[results,Tryz.results321,go_sem]) rfl ⟨rfl,_,aw,by rw[He.o,Hc.o];exact am,ax,(Nw.refl _ _).trans z.size hV⟩
  . have hq:((u:Int) == (l6 l:Int))=false:=(by rw[beq_eq_false_iff_ne];omega);have Hf:=zh hl;clear hl;go_in;go_wp2_with(go_at_call 202;refine cm (J4 _ _ _ (HI.o _ F) R) fun G z=>?_);have ar:=F.trans z;go_loop [9] (fun xv=>∃e:Nat,e<=ord l/\xv=vi e/\∀j,j<e->u.testBit j=true) (fun x=>ord l-(intOf x).toNat);exact⟨0,om,rfl,om⟩;case round =>
     obtain⟨e,he,rfl,hs⟩:=hrel;cases hh:u.testBit e
     . have aG:e<ord l:=oU fun hn=>Hf.o (cy2 hu hs om);have aC:Hid (c14 u=e):=zh (dc2 hs hh om);have hN:=T2 u e af om G hh;clear hs hh;go_wp2_with(first|(go_at_call 205;refine cm hN fun w' hH=>?_;subst hH)|(go_at_call 195;refine(J1 a ac _).mono ?_;rintro e2 w2⟨v2,rfl,hL,I⟩;obtain⟨aL,cL,au,rfl,hC,al⟩:=hL.ints.nats));have aO:=j2 (c:=cL) elI szI hC;have hp:=z.trans I;have an:=ar.trans I;have A:=hb.ext hp;have g:=O.ext hp;have aB:=hT.ext hp;have aJ:=jx3 hL (nlt hb.lt z.size);have ag:(Value.slice aL (j3 a).length cL).ownBlock=none\/(Value.slice aL (j3 a).length cL).ownBlock≠(Value.slice p t.length co).ownBlock:=by
        cases hq:(Value.slice aL (j3 a).length cL).ownBlock with
        |none=>exact Or.inl rfl
        |some j=>exact Or.inr fun e=>by have h1:=(hL.blk j hq).1;have r:=(O.blk j e.symm).2;have:=z.size;omega
       have az:∀y∈j3 a,y<24:=fun y hy=>J5 hy;have aT:=D0 a;have aI:∀j,(Value.slice p t.length co).ownBlock=some j->C.heap.size<=j:=fun j hj=>(O.blk j hj).1;clear O hb hT al;obtain⟨oB,aY⟩:=nq ((Value.slice p t.length co).ownBlock);have HL:=zh hL;have Hd:=zh ag;have Ha:=zh hp;have Hg:=zh hC;clear hL ag hC;go_loopw [30] (fun i wr=>∃(k:Nat) (Y:Value),k<=(j3 a).length/\i=vi k/\Blk wr B 40 #[Y]/\Own 3 C wr Y (b9 (b70 l a m f u b t k))/\Fr B (Value.slice p t.length co).ownBlock w2 wr/\Nw (Value.slice p t.length co).ownBlock w2 Y.ownBlock) (fun i _=>(j3 a).length-(intOf i).toNat);exact⟨0,_,om,rfl,A,g,Fr.refl _ _ _,Nw.refl _ _⟩;case round =>
        clear A g;obtain⟨k,Y,V,rfl,hr,K,ho,ah⟩:=hrel;have hg:=ho.ext an aF aI;have hw:=ho.blk aB (Ne.symm hM) aa;have Hb:=zh (ho.own HL.o aJ Hd.o);have Hr:=zh ho;have N:=zh ah;clear ho ah;obtain⟨ab,cb,rfl,-⟩:=K.shape;obtain⟨OO,d⟩:=nq (b70 l a m f u b t k);rw[<-d]at K hr N;rw[d9]at K hr N;by_cases U:k<(j3 a).length
        . have hZ:=az _ (m7 U);have Hl:Hid ((j3 a)[k]=d5 (j3 a) k):=zh (by simp[d5,List.getD,U]);have ai:wr.cell? (au k)=some (vi (d5 (j3 a) k:Int)):=by
           obtain⟨aP,Z,hv,-,-,hc⟩:=Hb.o.ints;rw[d9]at hc hv;simp only[Value.slice.injEq]at hv;obtain⟨M,hG,hc2⟩:=hc k U;obtain⟨h1,r⟩:=Hg.o k U;rw[P7]at hc2;rw[<-hv.1,h1]at hG;simp only[Option.some.injEq]at hG;rw[r,hG];exact hc2
          obtain⟨X,hX⟩:=nq (d5 (j3 a) k);rw[<-hX]at ai hZ Hl;have aU:q7 l X<16777216:=(by have:=U5 l (m0 R.o) X;omega);have hB:j9 l e (q7 l X)<24:=nlt (I4 l (m0 R.o) _ _) ak.2;have HD:Hid (dF l u X=j9 l e (q7 l X)):=zh (by unfold dF;rw[aC.o]);obtain⟨q,hD⟩:=nq (j9 l e (q7 l X));have hA:=fun W (D:Ext wr W)=>di9 v l e X W (HI.o _ (hg.trans D)) R om hZ;rw[<-hD]at hA hB HD;have av:=K8 R.o a q;obtain⟨s,S⟩:=nq (j6 l a q);have ht:=fun W (D:Ext wr W)=>M8 v l a q W (HI.o _ (hg.trans D)) R ac hB;rw[<-S]at ht av;have aS:b13 (s:Int) (u:Int)=((s &&& u:Nat):Int):=b95 om om;clear hX hD Hb;cases hz:(((s &&& u:Nat):Int) == 0)
          . have L:Hid (b70 l a m f u b t (k+1)=OO):=zh (by
             rw[j65 U,d];rw[Hl.o,HD.o,<-S];rw[beq_eq_false_iff_ne]at hz;omega)
            clear d S
            go_wp2_with(first|(go_at_call 322;refine cm (hA _ (er _)) fun w3 h=>?_;have hi:=hg.trans h)|(go_at_call 196;refine cm (ht _ h) fun w4 J=>?_;have hU:=hi.trans J;have H:=h.trans J))
            go_roundw
            case rel=>exact⟨k+1,_,om,zg,hr.ext H,by rw[L.o];exact K.ext H,Hr.o.trans N.o (H.fr _ _),N.o⟩
            case measure=>exact zm1
          . have hx:s &&& u=0:=(by rw[beq_iff_eq]at hz;omega);have kO:=hr.atc 0 rfl;by_cases aQ:(OO.length:Int)<(m:Int)
            . have hJ:=de7 R.o aE ha hu q (by rw[<-S];exact hx);rw[<-S]at hJ;have L:Hid (b70 l a m f u b t (k+1)=tlI l a m f (u ||| s) (b ||| 2^q) OO):=zh (by
               have:=l13 (l:=l) (a:=a) (m:=m) (f:=f) (u:=u) (b:=b) (out:=t) U (by rw[Hl.o,HD.o,<-S];exact hx) (by rw[<-d];omega);rw[this,<-d,Hl.o,HD.o,<-S])
              have hK:b ||| 2^q<2^24:=ox hP (oJ om hB)
              have aq:=fun W (E:Ext wr W)=>Hh.o (u ||| s) (b ||| 2^q) W (.slice ab OO.length cb) OO om hJ.1 hK om (hg.trans E) (hr.ext E) (K.ext E) (hw.ext E);have aX:ior (u:Int) (s:Int)=((u ||| s:Nat):Int):=R5 om om;have aM:=o6 (n:=q) om;have aN:=H9 hP hB;have kt:=hw.atc 0 rfl;clear d S hJ hK hx;go_wp2_with(first|(go_at_call 322;refine cm (hA _ (er _)) fun w3 h=>?_;have hi:=hg.trans h)|(go_at_call 196;refine cm (ht _ h) fun w4 J=>?_;have hU:=hi.trans J;have H:=h.trans J));have aR:=(er w4).drew;(first|(go_region_held3 (fun W=>W.cell? (aD bT 0)=some (.func (.func 321) #[] #[.pointer (some (aD bG 0)),.pointer (some (aD B 0)),.pointer (some (aD bA 0)),.pointer (some (aD bM 0)),.pointer (some (aD bT 0))])) (first|exact aK.cell (i:=0) rfl|exact kt _ xq) (first|(go_at_call 321;((with_reducible refine od (aq _ xq) ?_);rintro eH w5⟨rfl,va,aA,ap,ad,ay⟩;have aK:=ad.blk (hw.ext xq) (Ne.symm hM) (b47 (K.ext xq) (hw.ext xq) (by decide))))))|(fail "the region"));go_wp2_with fail;go_roundw;exact⟨k+1,va,om,zg,aA,by rw[L.o];exact ap,Hr.o.trans N.o ((H.drew.fr _ _).trans (Nw.refl _ _) ad),N.o.trans (nle Hr.o.size H.drew.size) ay⟩;exact zm1
            . have L:Hid (b70 l a m f u b t (k+1)=OO):=zh (by
               rw[j65 U,d];rw[<-d];omega)
              clear d S hx
              go_wp2_with(first|(go_at_call 322;refine cm (hA _ (er _)) fun w3 h=>?_;have hi:=hg.trans h)|(go_at_call 196;refine cm (ht _ h) fun w4 J=>?_;have hU:=hi.trans J;have H:=h.trans J))
              go_roundw
              case rel=>exact⟨k+1,_,om,zg,hr.ext H,by rw[L.o];exact K.ext H,Hr.o.trans N.o (H.fr _ _),N.o⟩
              case measure=>exact zm1
        . have L:Hid (tlI l a m (f+1) u b t=OO):=zh (by rw[d,lp4 Hf.o,show k=(j3 a).length by omega]);clear d;go_wp2_with fail;go_end0;exact⟨rfl,_,hr,by rw[L.o];exact K,(Ha.o.fr _ _).trans (Nw.refl _ _) Hr.o,(Nw.refl _ _).trans Ha.o.size N.o⟩
     . have aG:=L7 hu hh;have hN:=T2 u e af om G hh;go_wp2_with(refine cm hN fun w' hH=>?_;subst hH);go_round;exact⟨e+1,om,zg,fun j hj=>by by_cases aH:j=e;(subst aH;exact hh);exact hs j om⟩;exact zm1
theorem dl1(a m:Nat)(w:World)(h:c8 w v l)(R:Hid (d7 l=true))(B:a≠0)(A:a<2^ord l)(hf:1<=m)(y:m<=1000):Calls Tryz.prog 274 #[.agg #[v],vi a,vi m] w fun e S=>∃V,e=.returned V/\Own 3 w S V (b9 (R2 l a m))/\Ext w S:=by
 have L:=E7 R.o;have hc:a<2^24:=nlt A L;have z:Hid (R2 l a m=tlI l a m (ord l+1) a 1 []):=zh (by
  have:=ly5 l a m (ord l+1) a 1 [] zso;rw[this];simp[R2])
 have hh:1<=cnt a:=U3 (pW B) hc;have hg:∀(F:Fn) (first cap:Array Value) (w:World),(Instr.makeFunc F first cap).run Tryz.prog w=.ok (.func F first cap) w:=fun _ _ _ _=>rfl;have HH:=zh h;clear h;go_in;go_wp2_with fail;obtain⟨G,H⟩:=nq (w.alloc (.cells #[v] 42));obtain⟨p,r⟩:∃x,x=G.alloc (.cells #[vi (a:Int)] 3):=⟨_,rfl⟩;obtain⟨w3,Y⟩:∃x,x=p.alloc (.cells #[vi (m:Int)] 3):=⟨_,rfl⟩;obtain⟨w4,b⟩:=nq (w3.alloc (.cells #[] 3));obtain⟨s,c⟩:=nq (w4.alloc (.cells #[.slice (some (aD (w.heap.size+1+1+1) 0)) 0 0] 40));obtain⟨w6,f⟩:=nq (s.alloc (.cells #[.func (.func 321) #[] #[.pointer (some (aD w.heap.size 0)),.pointer (some (aD (w.heap.size+1+1+1+1) 0)),.pointer (some (aD (w.heap.size+1) 0)),.pointer (some (aD (w.heap.size+1+1) 0)),.pointer (some (aD (w.heap.size+1+1+1+1+1) 0))]] 163));rw[<-H,<-r,<-Y,<-b,<-c,<-f];have g:G.heap.size=w.heap.size+1:=by rw[H];simp
 have k:p.heap.size=w.heap.size+1+1:=by rw[r];simp[g]
 have t:w3.heap.size=w.heap.size+1+1+1:=by rw[Y];simp[k]
 have q:w4.heap.size=w.heap.size+1+1+1+1:=by rw[b];simp[t]
 have I:s.heap.size=w.heap.size+1+1+1+1+1:=by rw[c];simp[q]
 have eb:Ext w G:=by rw[H];exact(er _).alloc _
 have N:Ext G p:=by rw[r];exact(er _).alloc _
 have U:Ext p w3:=by rw[Y];exact(er _).alloc _
 have ea:Ext w3 w4:=by rw[b];exact(er _).alloc _
 have d:Ext w4 s:=by rw[c];exact(er _).alloc _
 have E:Ext s w6:=by rw[f];exact(er _).alloc _
 have C:Blk G w.heap.size 42 #[v]:=by rw[H];exact oq _ _ _
 have B2:Blk p (w.heap.size+1) 3 #[vi (a:Int)]:=by rw[r,<-g];exact oq _ _ _
 have B3:Blk w3 (w.heap.size+1+1) 3 #[vi (m:Int)]:=by rw[Y,<-k];exact oq _ _ _
 have B5:Blk s (w.heap.size+1+1+1+1) 40 #[.slice (some (aD (w.heap.size+1+1+1) 0)) 0 0]:=by rw[c,<-q];exact oq _ _ _
 have B6:Blk w6 (w.heap.size+1+1+1+1+1) 163 #[.func (.func 321) #[] #[.pointer (some (aD w.heap.size 0)),.pointer (some (aD (w.heap.size+1+1+1+1) 0)),.pointer (some (aD (w.heap.size+1) 0)),.pointer (some (aD (w.heap.size+1+1) 0)),.pointer (some (aD (w.heap.size+1+1+1+1+1) 0))]]:=by rw[f,<-I];exact oq _ _ _
 have O4:Own 3 w3 w4 (.slice (some (aD (w.heap.size+1+1+1) 0)) 0 0) []:=by rw[b,<-t];exact l9 (TI:=3) (n:=0) om (er w3) [] rfl
 have X:=N.trans U;have u:=ea.trans (d.trans E);have M:=eb.trans X;refine(ly6 v l a m R B A y w3 w.heap.size (w.heap.size+1+1+1+1) (w.heap.size+1) (w.heap.size+1+1) (w.heap.size+1+1+1+1+1) om om _ (fun W D=>((C.ext X).ext D).cell (i:=0) rfl) (fun W D=>((B2.ext U).ext D).cell (i:=0) rfl) (fun W D=>(B3.ext D).cell (i:=0) rfl) (zh fun W D=>HH.o.ext (M.trans D)) rfl (ord l+1) a 1 w6 _ [] om A (by decide) zso u (B5.ext E) (O4.ext (d.trans E)) B6).mono ?_;rintro e K⟨rfl,v7,hb,O,he,-⟩;rw[<-z.o]at O;obtain⟨a7,c7,rfl,-⟩:=O.shape;have hi:=hb.cell (i:=0) (v:=.slice a7 (b9 (R2 l a m)).length c7) rfl;have Z:Ext w K:=he.ext (M.trans u) om (fun j J=>by simp[Value.ownBlock]at J;omega);go_wp2_with fail;go_ret;exact⟨_,rfl,O.mono M,Z⟩
theorem zz69{P:Prop}(h:P:=by exact br (.tuple #[vi 0,.bool false]) ⟨by rw[N.o.1,N.o.2],F.trans E⟩):P:=h
theorem bt2(a:Int)(w:World)(h:c8 w v l):Calls Tryz.prog 189 #[.agg #[v],vi a] w (RE w (.tuple #[vi (ftV l a),.bool (ftB l a)])):=by
 obtain⟨B,Z,F,C,H,E,s⟩:=m04 42 h;clear h;have M:=C B E;cases S:j0 l a
 . have N:=zh (cn5 (P5 S));go_in;go_wp2_with fail;rw[<-Z.o];go_wp2_with(first|(go_at_call 180;refine cx (q6 _ _ _ _ (H _ E) (S)) E fun U E=>?_));exact zz69
 obtain⟨n,rfl,p,q,Y⟩:=l7 S;by_cases X:n=0
 . subst X;have N:Hid (ftB l ((0:Nat):Int)=false/\ftV l ((0:Nat):Int)=0):=zh (cn5 (J7 l));go_in;go_wp2_with fail;rw[<-Z.o];go_wp2_with(first|(go_at_call 180;refine cx (q6 _ _ _ _ (H _ E) (S)) E fun U E=>?_));exact zz69
 have g:((n:Int) == 0)=false:=(by rw[beq_eq_false_iff_ne];omega);have R:=zh Y;have y:=Q4 S om;have I:=fun W (D:Ext B W)=>dl1 v l n 1 W (H W D) R X p om om;have G:(R2 l n 1).length<=1:=bt0 _ _ _ _ _ _ om;have J:=zh y;clear y Y X;rcases m:R2 l n 1 with _|⟨x,L⟩
 . have N:=zh (dw6 m);rw[m]at I;clear m G;go_in;go_wp2_with fail;rw[<-Z.o];go_wp2_with(first|(go_at_call 180;refine cx (q6 _ _ _ _ (H _ E) (S)) E fun U E=>?_)|(go_at_call 274;refine(I _ E).mono ?_;rintro e U⟨K,rfl,O,V⟩;replace E:=E.trans V;clear V;obtain⟨aT,j,rfl,-⟩:=O.shape;simp only[b9,pj,oI]at O|-));exact zz69
 rw[m]at G;have b:L=[]:=oF (by simp at G;simpa using G);subst b;have N:=zh (dw7 J.o m);rw[m]at I;clear m G;go_in;go_wp2_with fail;rw[<-Z.o];go_wp2_with(first|(go_at_call 180;refine cx (q6 _ _ _ _ (H _ E) (S)) E fun U E=>?_)|(go_at_call 274;refine(I _ E).mono ?_;rintro e U⟨K,rfl,O,V⟩;replace E:=E.trans V;clear V;obtain⟨i,c,A,rfl,z,d,r⟩:=O.ints.op;have f:∀W,(Instr.indexAt 40 (.slice i 1 c) (vi 0)).run Tryz.prog W=.ok (.pointer (some (A 0))) W:=fun W=>j2 (c:=c) (n:=(b9 [x]).length) elI szI d 0 W (by simp[b9]);have k:U.cell? (A 0)=some (vi (x:Int)):=r 0 U (by simp[b9]) (er _);clear z d r;rw[show(b9 [x]).length=1 from rfl]at O|-));exact br (.tuple #[vi x,.bool true]) ⟨by rw[N.o.1,N.o.2],F.trans E⟩
theorem zz161{P:Prop}(h:P:=by rw[show(((pw (ord l):Nat):Int)-1)=((l6 l:Nat):Int) by unfold l6;omega];apply oD;unfold l6;omega):P:=h
theorem bp1(a:Int)(w:World)(h:c8 w v l):Calls Tryz.prog 136 #[.agg #[v],vi a] w (RE w (.tuple #[vi (ftV l a),.bool (ftB l a)])):=by
 obtain⟨B,Z,F,C,H,E,Hz⟩:=m04 42 h;clear h;have hx:=C B E;cases S:j0 l a
 . have N:=zh (cn5 (P5 S));go_in;go_wp2_with fail;rw[<-Z.o];go_wp2_with(first|(go_at_call 124;refine cx (m6 _ _ _ _ (H _ E) (S)) E fun U E=>?_));exact zz69
 obtain⟨n,rfl,p,hf,Y⟩:=l7 S;by_cases V:n=0
 . subst V;have N:Hid (ftB l ((0:Nat):Int)=false/\ftV l ((0:Nat):Int)=0):=zh (cn5 (J7 l));go_in;go_wp2_with fail;rw[<-Z.o];go_wp2_with(first|(go_at_call 124;refine cx (m6 _ _ _ _ (H _ E) (S)) E fun U E=>?_));exact zz69
 have hj:((n:Int) == 0)=false:=(by rw[beq_eq_false_iff_ne];omega);have R:=zh Y;have y:=Q4 S om;have he:1<=cnt n:=U3 om hf;have k:=l8 Y;have J:∀W,Ext B W->Calls Tryz.prog 233 #[.agg #[v],vi n,vi (l6 l:Nat),vi n,vi 1,vi 1] W fun e U=>∃f,e=.returned f/\Own 3 W U f (b9 (R2 l n 1))/\Ext W U:=fun W D =>
  ct4 v l n R V p (ord l+1) n 1 1 W (H W D) om p (by decide) om om
 have I:(R2 l n 1).length<=1:=bt0 _ _ _ _ _ _ om;have s:=zh y;have hi:=o6 (n:=ord l) om;have hw:=bc9 (n:=ord l) k.2;have hl:=X9 (ord l);have hr:IntKind.i64.wrap (((pw (ord l):Nat):Int)-1)=((l6 l:Nat):Int):=by
  exact zz161
 clear y Y V he;rcases m:R2 l n 1 with _|⟨x,L⟩
 . have N:=zh (dw6 m);rw[m]at J;clear m I;go_in;go_wp2_with fail;rw[<-Z.o];refine cm (m6 _ _ _ _ (H _ E) S) fun G z=>?_;have b:=sh z C;go_wp2_with fail;have M:=(er (G)).drew;(first|(go_region_held3 (fun W=>Ext (G) W/\W.cell? (aD w.heap.size 0)=some v) (exact⟨xq,b _ xq⟩) (first|(go_at_call 103;((with_reducible refine od (o4 _ _ _ (H _ (z.trans xq)) R) ?_);rintro e wa⟨rfl,i⟩;have hc:=og (a:=G) xq i))|(go_at_call 233;((with_reducible refine od (J _ (z.trans xq)) ?_);rintro e d⟨vT,rfl,O,X⟩;have ha:=og (a:=G) xq X))))|(fail "the region with calls"));obtain⟨aT,cT,rfl,-⟩:=O.shape;rw[show(b9 []).length=0 from rfl]at O|-;go_wp2_with fail;exact br (.tuple #[vi 0,.bool false]) ⟨by rw[N.o.1,N.o.2],F.trans (z.trans xq)⟩
 rw[m]at I;have g:L=[]:=oF (by simp at I;simpa using I);subst g;have N:=zh (dw7 s.o m);rw[m]at J;clear m I;go_in;go_wp2_with fail;rw[<-Z.o];refine cm (m6 _ _ _ _ (H _ E) S) fun G z=>?_;have b:=sh z C;go_wp2_with fail;have M:=(er (G)).drew;(first|(go_region_held3 (fun W=>Ext (G) W/\W.cell? (aD w.heap.size 0)=some v) (exact⟨xq,b _ xq⟩) (first|(go_at_call 103;((with_reducible refine od (o4 _ _ _ (H _ (z.trans xq)) R) ?_);rintro e wa⟨rfl,i⟩;have hc:=og (a:=G) xq i))|(go_at_call 233;((with_reducible refine od (J _ (z.trans xq)) ?_);rintro e d⟨vT,rfl,O,X⟩;have ha:=og (a:=G) xq X))))|(fail "the region with calls"));obtain⟨j,c,q,rfl,K,A,r⟩:=O.ints.op;have hh:∀W,(Instr.indexAt 40 (.slice j 1 c) (vi 0)).run Tryz.prog W=.ok (.pointer (some (q 0))) W:=fun W=>j2 (c:=c) (n:=(b9 [x]).length) elI szI A 0 W (by simp[b9]);have hk:d.cell? (q 0)=some (vi (x:Int)):=r 0 d (by simp[b9]) (er _);clear K A r;rw[show(b9 [x]).length=1 from rfl]at O|-;go_wp2_with fail;exact br (.tuple #[vi x,.bool true]) ⟨by rw[N.o.1,N.o.2],F.trans (z.trans xq)⟩
theorem d10(a:Int)(w:World)(h:c8 w v l):Calls Tryz.prog 69 #[.agg #[v],vi a] w fun e R=>∃V k m p,e=.returned (.tuple #[CV (if ftB l a then 4 else 0) V k (if ftB l a then a else 0) (ftV l a) 0 0 m p 0,.bool (ftB l a)])/\Own4 w R V k m p (if ftB l a then l else []) [] [] []/\Ext w R:=by
 obtain⟨B,Z,F,C,H,E,s⟩:=m04 42 h;clear h;obtain⟨wc,W⟩:=nq (B.alloc (.cells #[vi 0,.slice none 0 0,.slice none 0 0,vi 0,vi 0,vi 0,vi 0,.slice none 0 0,.slice none 0 0,vi 0] 52));have b:Blk wc B.heap.size 52 #[vi 0,.slice none 0 0,.slice none 0 0,vi 0,vi 0,vi 0,vi 0,.slice none 0 0,.slice none 0 0,vi 0]:=by rw[W];exact oq _ _ _
 have U:Res wc B.heap.size 10:=b.res zm;have A:Ext B wc:=by rw[W];exact E.alloc _
 replace E:=er wc;have K:Hid (B.heap.size+1=wc.heap.size):=zh (by rw[W];simp[go_sem]);have J:=zh W;clear W b;have g:=sh A H;have D:=sh A C;have W:B.heap.size<wc.heap.size:=by have:=K.o;omega
 have f:ftB l a=false->ftV l a=0:=fun e=>by unfold ftV;rw[e];rfl
 cases S:ftB l a
 . have N:=zh (f S);go_in;go_wp2_with fail;rw[<-Z.o,<-J.o];rw[s.o];refine(bt2 _ _ _ _ (g _ E)).mono ?_;rw[N.o,S];rintro e G⟨rfl,z⟩;have r:=U.ext z;unfold Res at r;go_wp2_with fail;exact bodyPost_ret (v:=.tuple #[CV 0 (.slice none 0 0) (.slice none 0 0) 0 0 0 0 (.slice none 0 0) (.slice none 0 0) 0,.bool false]) (by simp[results,Tryz.results69,go_sem,r,CV]) rfl ⟨_,_,_,_,zm,⟨oL _ _ _,oL _ _ _,oL _ _ _,oL _ _ _,l5.nil_left _,l5.nil_left _,l5.nil_left _,l5.nil_left _,l5.nil_left _,l5.nil_left _⟩,F.trans (by(repeat(refine oZ ?_ (oc _) _));exact A.trans z)⟩
 go_in;go_wp2_with fail;rw[<-Z.o,<-J.o];rw[s.o];refine(bt2 _ _ _ _ (g _ E)).mono ?_;rw[S];rintro e G⟨rfl,z⟩;have X:=D _ z;go_wp2_with fail;refine(Z2 _ _ _ (g _ z)).mono ?_;rintro e n⟨i,c,rfl,O,I⟩;have r:=U.ext (z.trans I);unfold Res at r;have x:B.heap.size<G.heap.size:=nlt W z.size;go_wp2_with fail;exact bodyPost_ret (v:=.tuple #[CV 4 (.slice i l.length c) (.slice none 0 0) a (ftV l a) 0 0 (.slice none 0 0) (.slice none 0 0) 0,.bool true]) (by simp[results,Tryz.results69,go_sem,r,CV]) rfl ⟨_,_,_,_,by simp;rfl,⟨(show Own 3 G _ _ _ by(repeat(refine oV ?_ x _));exact O).mono (F.trans (A.trans z)),oL _ _ _,oL _ _ _,oL _ _ _,l5.nil_right _,l5.nil_right _,l5.nil_right _,l5.nil_left _,l5.nil_left _,l5.nil_left _⟩,F.trans (by(repeat(refine oZ ?_ (oc _) _));exact A.trans (z.trans I))⟩
theorem cz3(a:Int)(w:World)(h:c8 w v l):Calls Tryz.prog 50 #[.agg #[v],vi a] w fun e R=>∃V k m p,e=.returned (.tuple #[CV (if ftB l a then 4 else 0) V k (if ftB l a then a else 0) (ftV l a) 0 0 m p 0,.bool (ftB l a)])/\Own4 w R V k m p (if ftB l a then l else []) [] [] []/\Ext w R:=by
 obtain⟨B,Z,F,C,H,E,s⟩:=m04 42 h;clear h;obtain⟨wc,W⟩:=nq (B.alloc (.cells #[vi 0,.slice none 0 0,.slice none 0 0,vi 0,vi 0,vi 0,vi 0,.slice none 0 0,.slice none 0 0,vi 0] 52));have b:Blk wc B.heap.size 52 #[vi 0,.slice none 0 0,.slice none 0 0,vi 0,vi 0,vi 0,vi 0,.slice none 0 0,.slice none 0 0,vi 0]:=by rw[W];exact oq _ _ _
 have U:Res wc B.heap.size 10:=b.res zm;have A:Ext B wc:=by rw[W];exact E.alloc _
 replace E:=er wc;have K:Hid (B.heap.size+1=wc.heap.size):=zh (by rw[W];simp[go_sem]);have J:=zh W;clear W b;have g:=sh A H;have D:=sh A C;have W:B.heap.size<wc.heap.size:=by have:=K.o;omega
 have f:ftB l a=false->ftV l a=0:=fun e=>by unfold ftV;rw[e];rfl
 cases S:ftB l a
 . have N:=zh (f S);go_in;go_wp2_with fail;rw[<-Z.o,<-J.o];rw[s.o];refine(bp1 _ _ _ _ (g _ E)).mono ?_;rw[N.o,S];rintro e G⟨rfl,z⟩;have r:=U.ext z;unfold Res at r;go_wp2_with fail;exact bodyPost_ret (v:=.tuple #[CV 0 (.slice none 0 0) (.slice none 0 0) 0 0 0 0 (.slice none 0 0) (.slice none 0 0) 0,.bool false]) (by simp[results,Tryz.results50,go_sem,r,CV]) rfl ⟨_,_,_,_,zm,⟨oL _ _ _,oL _ _ _,oL _ _ _,oL _ _ _,l5.nil_left _,l5.nil_left _,l5.nil_left _,l5.nil_left _,l5.nil_left _,l5.nil_left _⟩,F.trans (by(repeat(refine oZ ?_ (oc _) _));exact A.trans z)⟩
 go_in;go_wp2_with fail;rw[<-Z.o,<-J.o];rw[s.o];refine(bp1 _ _ _ _ (g _ E)).mono ?_;rw[S];rintro e G⟨rfl,z⟩;have X:=D _ z;go_wp2_with fail;refine(b07 _ _ _ (g _ z)).mono ?_;rintro e n⟨i,c,rfl,O,I⟩;have r:=U.ext (z.trans I);unfold Res at r;have x:B.heap.size<G.heap.size:=nlt W z.size;go_wp2_with fail;exact bodyPost_ret (v:=.tuple #[CV 4 (.slice i l.length c) (.slice none 0 0) a (ftV l a) 0 0 (.slice none 0 0) (.slice none 0 0) 0,.bool true]) (by simp[results,Tryz.results50,go_sem,r,CV]) rfl ⟨_,_,_,_,by simp;rfl,⟨(show Own 3 G _ _ _ by(repeat(refine oV ?_ x _));exact O).mono (F.trans (A.trans z)),oL _ _ _,oL _ _ _,oL _ _ _,l5.nil_right _,l5.nil_right _,l5.nil_right _,l5.nil_left _,l5.nil_left _,l5.nil_left _⟩,F.trans (by(repeat(refine oZ ?_ (oc _) _));exact A.trans (z.trans I))⟩
def b25(l:LI)(a k:Nat):Nat:=B7 ((List.range k).filter (fun x=>decide (j6 l a x=a)))
theorem d81{l:LI}{a:Nat}(h:j6 l a k=a):b25 l a (k+1)=b25 l a k ||| 2^k:=by
 unfold b25;rw[oW,qd];simp only[List.filter_cons,List.filter_nil,h,decide_true,if_true];exact bn0 _ _
theorem dk6{l:LI}{a:Nat}(h:¬j6 l a k=a):b25 l a (k+1)=b25 l a k:=by
 unfold b25;rw[oW,qd];simp[h]
theorem cl6(a k:Nat):b25 l a k<2^k:=b77 fun _ K=>ou.1 (qK.1 K).1
def F0(l:LI)(a:Nat):Nat:=b25 l a (ord l)
theorem be4(a:Nat):F0 l a<2^ord l:=cl6 l a _
def B8(l:LI)(a b:Int):Bool:=j0 l a&&j0 l b && !(a == 0) && !(b == 0)
theorem jt4{l:LI}{a b:Int}(h:(j0 l a&&j0 l b)=false):B8 l a b=false:=by unfold B8;rw[h];rfl
theorem N6{l:LI}{a b:Int}(h:B8 l a b=true):∃m n:Nat,a=m/\b=n/\m≠0/\n≠0/\m<2^ord l/\n<2^ord l/\m<2^24/\n<2^24/\d7 l=true/\j0 l a=true/\j0 l b=true:=by
 unfold B8 at h;simp only[ow,Bool.not_eq_true',beq_eq_false_iff_ne]at h;obtain⟨⟨⟨U,r⟩,Y⟩,c⟩:=h;obtain⟨m,rfl,N,A,H⟩:=l7 U;obtain⟨n,rfl,O,B,-⟩:=l7 r;exact⟨m,n,rfl,rfl,om,om,N,O,A,B,H,U,r⟩
theorem jk7{l:LI}(h:d7 l=true){a:Nat}(A:a≠0)(G:a<2^ord l)(C:b<2^ord l):cnt b<=cnt (j7 l a b):=by
 obtain⟨x,K⟩:=bh3 A;rw[<-bf2 h C x];refine cv6 fun i J=>?_;obtain⟨y,H,B,rfl⟩:=E8.1 J;exact C7.2 ⟨x,y,nlt (L7 G K) (l8 h).2,K,H,B,rfl⟩
theorem zz102{P:Prop}(h:P:=by clear q;go_wp2_with(first|(go_at_call 196;refine cx (M8 _ _ _ _ _ (H _ E) (R) (A) (om)) E fun e E=>?_));go_roundw;exact⟨k+1,om,zg,by rw[N.o],E⟩;exact zm1):P:=h
theorem b58(a:Nat)(w:World)(h:c8 w v l)(S:j0 l a=true):Calls Tryz.prog 86 #[.agg #[v],vi a] w (RE w (vi (F0 l a:Nat))):=by
 obtain⟨B,Z,F,C,H,E,z⟩:=m04 42 h;clear h;obtain⟨t,W,-,A,Y⟩:=l7 S;obtain rfl:a=t:=om;have R:=zh Y;have c:=l8 Y;clear Y W;go_in;go_wp2_with fail;rw[<-Z.o];go_wp2_with(first|(go_at_call 180;refine cx (q6 _ _ _ _ (H _ E) (S)) E fun e E=>?_)|(go_at_call 153;refine cx (p9 _ _ _ (H _ E) (R)) E fun e E=>?_));clear S;go_loopw [5,13] (fun O X wr=>∃k:Nat,k<=ord l/\X=vi k/\O=vi (b25 l a k:Nat)/\Ext B wr) (fun _ x _=>ord l-(intOf x).toNat);exact⟨0,om,rfl,rfl,E⟩
 clear E;obtain⟨k,V,rfl,rfl,E⟩:=hrel;have b:=C _ E;by_cases U:k<ord l;have s:b25 l a k<2^24:=nlt (cl6 l a k) (ot om om);have f:=K8 R.o a k;have p:=o6 (n:=k) om;have r:=H9 s (show k<24 by omega);by_cases q:j6 l a k=a;have N:=zh (d81 q);have i:((j6 l a k:Int) == (a:Int))=true:=(by rw[q];simp);exact zz102;have N:=zh (dk6 q);have i:((j6 l a k:Int) == (a:Int))=false:=zso;exact zz102;have K:k=ord l:=om;subst K;exact zz41
theorem zz78{P:Prop}(h:P:=by clear q;go_wp2_with(first|(go_at_call 103;refine cx (o4 _ _ _ (H _ E) (R)) E fun e E=>?_)|(go_at_call 221;refine cx (M4 _ _ _ _ _ (H _ E) (R) (A) (om)) E fun e E=>?_));go_roundw;exact⟨k+1,om,zg,by rw[N.o],E⟩;exact zm1):P:=h
theorem b08(a:Nat)(w:World)(h:c8 w v l)(R:Hid (d7 l=true))(A:a<2^24):Calls Tryz.prog 127 #[.agg #[v],vi a] w (RE w (vi (F0 l a:Nat))):=by
 obtain⟨B,Z,F,C,H,E,z⟩:=m04 42 h;clear h;have W:=l8 R.o;go_in;go_wp2_with fail;rw[<-Z.o];go_loopw [5,6] (fun O X wr=>∃k:Nat,k<=ord l/\X=vi k/\O=vi (b25 l a k:Nat)/\Ext B wr) (fun _ x _=>ord l-(intOf x).toNat);exact⟨0,om,rfl,rfl,E⟩
 clear E;obtain⟨k,V,rfl,rfl,E⟩:=hrel;have b:=C _ E;by_cases U:k<ord l;have s:b25 l a k<2^24:=nlt (cl6 l a k) (ot om om);have f:=K8 R.o a k;have S:=o6 (n:=k) om;have r:=H9 s (show k<24 by omega);by_cases q:j6 l a k=a;have N:=zh (d81 q);have i:((j6 l a k:Int) == (a:Int))=true:=(by rw[q];simp);exact zz78;have N:=zh (dk6 q);have i:((j6 l a k:Int) == (a:Int))=false:=zso;exact zz78;have K:k=ord l:=om;subst K;go_wp2_with(first|(go_at_call 103;refine cx (o4 _ _ _ (H _ E) (R)) E fun e E=>?_));go_ret;exact⟨rfl,F.trans E⟩
theorem c07(a b:Int)(w:World)(h:c8 w v l):Calls Tryz.prog 74 #[.agg #[v],vi a,vi b] w (RE w (.bool (B8 l a b))):=by
 obtain⟨B,Z,F,C,H,E,s⟩:=m04 42 h;clear h;have x:=C B E;have r:=bt8 l a b;cases S:(j0 l a&&j0 l b)
 . have N:=zh (jt4 S);rw[S]at r;clear S;go_in;go_wp2_with fail;rw[<-Z.o];try rw[s.o]
   go_wp2_with(first|(go_at_call 93;refine cm (T4 _ _ _ _ _ (H _ xq) (b62 _ _ _ _) r) fun e V=>?_;replace E:=E.trans (og xq V);clear V));exact zz9
 have N:Hid (B8 l a b=(!(a == 0) && !(b == 0))):=zh (by unfold B8;rw[S];rfl);rw[S]at r;clear S;cases A:(a == 0)<;>cases D:(b == 0)
 all_goals
  have d:(a != 0) = !(a == 0):=rfl
  have c:(b != 0) = !(b == 0):=rfl
  rw[A]at d
  rw[D]at c
  rw[A,D]at N
  go_in
  go_wp2_with fail
  rw[<-Z.o];try rw[s.o]
  go_wp2_with(first|(go_at_call 93;refine cm (T4 _ _ _ _ _ (H _ xq) (b62 _ _ _ _) r) fun e V=>?_;replace E:=E.trans (og xq V);clear V))
  go_ret
  exact⟨j1 (by rw[N.o];simp_all),F.trans E⟩
def knF(l:LI)(a b:Nat):Int:=(cnt (j7 l a (F0 l (j7 l a b))):Int)+cnt (j7 l b (F0 l (j7 l a b)))-cnt (F0 l (j7 l a b))
theorem co2{l:LI}(h:d7 l=true){a:Nat}(H:a≠0)(A:a<2^ord l):0<=knF l a b:=by
 have:=jk7 h H A (be4 l (j7 l a b));unfold knF;omega
theorem bz3(a b:Int)(w:World)(h:c8 w v l)(f:B8 l a b=false):Calls Tryz.prog 144 #[.agg #[v],vi a,vi b] w (RE w (vi (-1))):=by
 obtain⟨B,Z,F,C,H,E,s⟩:=m04 42 h;clear h;have x:=C B E;cases U:j0 l a
 ·
    go_in
    go_wp2_with fail
    rw[<-Z.o]
    go_wp2_with(first|(go_at_call 124;refine cx (m6 _ _ _ _ (H _ E) (U)) E fun W E=>?_))
    go_ret
    exact⟨rfl,F.trans E⟩
 cases r:j0 l b
 ·
    go_in
    go_wp2_with fail
    rw[<-Z.o]
    go_wp2_with(first|(go_at_call 124;(first|(with_reducible refine od (m6 _ _ a _ (H _ E) U) ?_)|(with_reducible refine od (m6 _ _ b _ (H _ E) r) ?_));rintro e W⟨rfl,V⟩;replace E:=E.trans V;clear V))
    go_ret
    exact⟨rfl,F.trans E⟩
 cases Y:(a == 0)
 . have c:(b == 0)=true:=(by unfold B8 at f;rw[U,r,Y]at f;simpa using f);clear f
   ·
      go_in
      go_wp2_with fail
      rw[<-Z.o]
      go_wp2_with(first|(go_at_call 124;(first|(with_reducible refine od (m6 _ _ a _ (H _ E) U) ?_)|(with_reducible refine od (m6 _ _ b _ (H _ E) r) ?_));rintro e W⟨rfl,V⟩;replace E:=E.trans V;clear V))
      go_ret
      exact⟨rfl,F.trans E⟩
 clear f
 ·
    go_in
    go_wp2_with fail
    rw[<-Z.o]
    go_wp2_with(first|(go_at_call 124;(first|(with_reducible refine od (m6 _ _ a _ (H _ E) U) ?_)|(with_reducible refine od (m6 _ _ b _ (H _ E) r) ?_));rintro e W⟨rfl,V⟩;replace E:=E.trans V;clear V))
    go_ret
    exact⟨rfl,F.trans E⟩
theorem bv9(a b:Nat)(w:World)(h:c8 w v l)(f:B8 l a b=true):Calls Tryz.prog 144 #[.agg #[v],vi a,vi b] w (RE w (vi (knF l a b))):=by
 obtain⟨B,Z,F,C,H,E,z⟩:=m04 42 h;clear h;have x:=fun u=>C _ (c9 B u);have I:=C B E;obtain⟨m,n,S,X,i,j,-,-,A,c,Y,U,r⟩:=N6 f;obtain rfl:a=m:=om;obtain rfl:b=n:=om;have R:=zh Y;have s:F0 l (j7 l a b)<2^24:=nlt (be4 l _) (E7 Y);have M:=H7 Y a b;have d:=H7 Y a (F0 l (j7 l a b));have q:=H7 Y b (F0 l (j7 l a b));have t:=p8 (j7 l a (F0 l (j7 l a b)));have k:=p8 (j7 l b (F0 l (j7 l a b)));have y:=p8 (F0 l (j7 l a b));have D:((a:Int) == 0)=false:=by simp;omega
 have J:((b:Int) == 0)=false:=by simp;omega
 have G:IntKind.i64.wrap ((cnt (j7 l a (F0 l (j7 l a b))):Int)+(cnt (j7 l b (F0 l (j7 l a b))):Int))=(cnt (j7 l a (F0 l (j7 l a b))):Int)+(cnt (j7 l b (F0 l (j7 l a b))):Int):=oD _ om;have p:IntKind.i64.wrap ((cnt (j7 l a (F0 l (j7 l a b))):Int)+(cnt (j7 l b (F0 l (j7 l a b))):Int)-(cnt (F0 l (j7 l a b)):Int))=(cnt (j7 l a (F0 l (j7 l a b))):Int)+(cnt (j7 l b (F0 l (j7 l a b))):Int)-(cnt (F0 l (j7 l a b)):Int):=oD _ om;clear Y S X f;go_in;go_wp2_with fail;rw[<-Z.o];go_wp2_with(first|(go_at_call 124;(first|(with_reducible refine od (m6 _ _ (a:Int) _ (H _ E) U) ?_)|(with_reducible refine od (m6 _ _ (b:Int) _ (H _ E) r) ?_));rintro e g⟨rfl,V⟩;replace E:=E.trans V;clear V));refine wl E ?_;(repeat(go_big_quiet_step(first|(go_at_call 145;exact oa (E6 _ _ _ _ _ (H _ (c9 B _)) (R) (A) (c)))|(go_at_call 127;exact oa (b08 _ _ _ _ (H _ (c9 B _)) (R) (M))))));refine zd fun W E=>?_;go_wp2_with fail;refine wl E ?_;(repeat(go_big_quiet_step(first|(go_at_call 145;exact oa (E6 _ _ _ _ _ (H _ (c9 B _)) (R) (A) (s)))|(go_at_call 145;exact oa (E6 _ _ _ _ _ (H _ (c9 B _)) (R) (c) (s)))|(go_at_call 125;(first|(with_reducible exact oT (o7 _ d _))|(with_reducible exact oT (o7 _ q _))|(with_reducible exact oT (o7 _ s _)))))));refine zd fun W E=>?_;go_wp2_with fail;go_ret;exact⟨o3 (by unfold knF;rfl),F.trans E⟩
def kpH(l:LI)(a b:Nat):Nat:=F0 l (j7 l a b)
theorem dd4(a b:Int)(w:World)(h:c8 w v l)(f:B8 l a b=false):Calls Tryz.prog 149 #[.agg #[v],vi a,vi b] w (RE w (.tuple #[vi 0,vi 0,vi 0,.bool false])):=by
 obtain⟨B,Z,F,C,H,E,s⟩:=m04 42 h;clear h;go_in;go_wp2_with fail;rw[<-Z.o];go_wp2_with(first|(go_at_call 144;refine cx (bz3 _ _ _ _ _ (H _ E) f) E fun e E=>?_));exact bodyPost_ret (v:=.tuple #[vi 0,vi 0,vi 0,.bool false]) (by simp[results,Tryz.results149,go_sem]) rfl ⟨rfl,F.trans E⟩
theorem d71(a b:Nat)(w:World)(h:c8 w v l)(f:B8 l a b=true):Calls Tryz.prog 149 #[.agg #[v],vi a,vi b] w (RE w (.tuple #[vi (kpH l a b:Nat),vi (j7 l a (kpH l a b):Nat),vi (j7 l b (kpH l a b):Nat),.bool true])):=by
 obtain⟨B,Z,F,C,H,E,z⟩:=m04 42 h;clear h;have x:=fun U=>C _ (c9 B U);obtain⟨m,n,S,X,c,g,N,-,A,d,Y,-,-⟩:=N6 f;obtain rfl:a=m:=om;obtain rfl:b=n:=om;have V:=co2 (b:=b) Y c N;have R:=zh Y;have s:kpH l a b<2^24:=nlt (be4 l _) (E7 Y);have u:=H7 Y a b;have k:F0 l (j7 l a b)=kpH l a b:=rfl;have p:=zh k;clear Y S X k c g;go_in;go_wp2_with fail;rw[<-Z.o];go_wp2_with(first|(go_at_call 144;refine cx (bv9 _ _ _ _ _ (H _ E) f) E fun e E=>?_));refine wl E ?_;(repeat(go_big_quiet_step(first|(go_at_call 145;exact oa (E6 _ _ _ _ _ (H _ (c9 B _)) (R) (A) (d)))|(go_at_call 127;exact oa (b08 _ _ _ _ (H _ (c9 B _)) (R) (u))))));refine zd fun W E=>?_;rw[p.o];go_wp2_with fail;refine wl E ?_;(repeat(go_big_quiet_step(first|(go_at_call 145;exact oa (E6 _ _ _ _ _ (H _ (c9 B _)) (R) (A) (s)))|(go_at_call 145;exact oa (E6 _ _ _ _ _ (H _ (c9 B _)) (R) (d) (s))))));refine zd fun W E=>?_;go_wp2_with fail;exact bodyPost_ret (v:=.tuple #[vi (kpH l a b:Nat),vi (j7 l a (kpH l a b):Nat),vi (j7 l b (kpH l a b):Nat),.bool true]) (by simp[results,Tryz.results149,go_sem]) rfl ⟨rfl,F.trans E⟩
def csK(l:LI)(a b:Int):Int:=if B8 l a b then 1 else 0
def csA(l:LI)(a b:Int):Int:=if B8 l a b then a else 0
def csB(l:LI)(a b:Int):Int:=if B8 l a b then b else 0
def csS(l:LI)(a b:Int):Int:=if B8 l a b then(j7 l a.toNat b.toNat:Int)else 0
def csP(l:LI)(a b:Int):Int:=if B8 l a b then(kpH l a.toNat b.toNat:Int)else 0
def csG(l:LI)(a b:Int):LI:=if B8 l a b then l else []
theorem lf8{l:LI}{a b:Int}(h:B8 l a b=false):csK l a b=0/\csA l a b=0/\csB l a b=0/\csS l a b=0/\csP l a b=0/\csG l a b=[]:=by
 unfold csK csA csB csS csP csG;rw[h];exact⟨rfl,rfl,rfl,rfl,rfl,rfl⟩
theorem jr4{l:LI}{a:Nat}(h:B8 l a b=true):csK l a b=1/\csA l a b=a/\csB l a b=b/\csS l a b=(j7 l a b:Int)/\csP l a b=(kpH l a b:Int)/\csG l a b=l:=by
 unfold csK csA csB csS csP csG;rw[h];exact⟨rfl,rfl,rfl,rfl,rfl,rfl⟩
theorem d88(a b:Int)(w:World)(h:c8 w v l):Calls Tryz.prog 30 #[.agg #[v],vi a,vi b] w fun e S=>∃V k q t,e=.returned (.tuple #[CV (csK l a b) V k (csA l a b) (csB l a b) (csS l a b) (csP l a b) q t 0,.bool (B8 l a b)])/\Own4 w S V k q t (csG l a b) [] [] []/\Ext w S:=by
 obtain⟨B,Z,F,C,H,E,s⟩:=m04 42 h;clear h;obtain⟨wc,p⟩:=nq (B.alloc (.cells #[vi 0,.slice none 0 0,.slice none 0 0,vi 0,vi 0,vi 0,vi 0,.slice none 0 0,.slice none 0 0,vi 0] 52));have u:Blk wc B.heap.size 52 #[vi 0,.slice none 0 0,.slice none 0 0,vi 0,vi 0,vi 0,vi 0,.slice none 0 0,.slice none 0 0,vi 0]:=by rw[p];exact oq _ _ _
 have U:Res wc B.heap.size 10:=u.res zm;have A:Ext B wc:=by rw[p];exact E.alloc _
 replace E:=er wc;have Ha:Hid (B.heap.size+1=wc.heap.size):=zh (by rw[p];simp[go_sem]);have J:=zh p;clear p u;have g:=sh A H;have hc:=sh A C;have p:B.heap.size<wc.heap.size:=by have:=Ha.o;omega
 cases f:B8 l a b
 . have N:=zh (lf8 f);go_in;go_wp2_with fail;rw[<-Z.o,<-J.o];rw[s.o];refine(c07 _ _ _ _ _ (g _ E)).mono ?_;rw[f];rintro e G⟨rfl,z⟩;have r:=U.ext z;unfold Res at r;go_wp2_with fail;exact bodyPost_ret (v:=.tuple #[CV 0 (.slice none 0 0) (.slice none 0 0) 0 0 0 0 (.slice none 0 0) (.slice none 0 0) 0,.bool false]) (by simp[results,Tryz.results30,go_sem,r,CV]) rfl ⟨_,_,_,_,by rw[N.o.1,N.o.2.1,N.o.2.2.1,N.o.2.2.2.1,N.o.2.2.2.2.1],by rw[N.o.2.2.2.2.2];exact⟨oL _ _ _,oL _ _ _,oL _ _ _,oL _ _ _,l5.nil_left _,l5.nil_left _,l5.nil_left _,l5.nil_left _,l5.nil_left _,l5.nil_left _⟩,F.trans (by(repeat(refine oZ ?_ (oc _) _));exact A.trans z)⟩
 have j:=f;obtain⟨m,n,rfl,rfl,-,-,-,-,M,d,Y,-,-⟩:=N6 f;have N:=zh (jr4 j);have R:=zh Y;have hs:j0 l ((j7 l m n:Nat):Int)=true:=X5 Y (bg8 (m0 Y) m n);have hp:F0 l (j7 l m n)=kpH l m n:=rfl;obtain⟨a,rfl⟩:=nq (m);obtain⟨b,rfl⟩:=nq (n);clear Y;go_in;go_wp2_with fail;rw[<-Z.o,<-J.o];rw[s.o];refine(c07 _ _ _ _ _ (g _ E)).mono ?_;rw[f];rintro e G⟨rfl,z⟩;have L:=hc _ z;go_wp2_with fail;refine cm (J2 _ _ _ _ _ (g _ z) R M d) fun w2 I=>?_;replace E:=z.trans I;clear L f j;go_wp2_with fail;have hD:=E.drew;(first|(go_region_held3 (fun W=>Ext (B) W/\W.cell? (aD w.heap.size 0)=some v/\(∀i,i<10->W.cell? (aD ((B).heap.size) i)=some (At W (aD ((B).heap.size) i))/\W.frozen? (aD ((B).heap.size) i)=false)) (exact⟨(by(repeat(refine oZ ?_ (oc _) _));exact og A xq),C _ (by(repeat(refine oZ ?_ (oc _) _));exact og A xq),(by(repeat(refine Res.setCell ?_ _ _));exact Res.ext U xq)⟩) (first|(go_at_call 85;((with_reducible refine od (Z2 _ _ _ (g _ xq)) ?_);rintro e wd⟨x,c,rfl,O,y⟩;have he:=og (a:=wc) xq y))|(go_at_call 86;((with_reducible refine od (b58 _ _ _ _ (g _ xq) hs) ?_);rintro e wa⟨rfl,X⟩;have K:=og (a:=wc) xq X))))|(fail "the region with a result"));go_wp2_with fail;have r:=U.ext K;unfold Res at r;have D:=(O.ext X).mono (show Ext wc _ by repeat(first|assumption|exact er _|(apply pA;assumption)|apply pB|apply oQ));exact bodyPost_ret (v:=.tuple #[CV 1 (.slice x l.length c) (.slice none 0 0) (a:Int) (b:Int) (j7 l a b:Int) (kpH l a b:Int) (.slice none 0 0) (.slice none 0 0) 0,.bool true]) (by simp[results,Tryz.results30,go_sem,r,CV]) rfl ⟨_,_,_,_,by rw[N.o.1,N.o.2.1,N.o.2.2.1,N.o.2.2.2.1,N.o.2.2.2.2.1],by rw[N.o.2.2.2.2.2];exact⟨(show Own 3 wc _ _ _ by(repeat(refine oV ?_ p _));exact D).mono (F.trans A),oL _ _ _,oL _ _ _,oL _ _ _,l5.nil_right _,l5.nil_right _,l5.nil_right _,l5.nil_left _,l5.nil_left _,l5.nil_left _⟩,F.trans (by(repeat(refine oZ ?_ (oc _) _));exact A.trans K)⟩
theorem d64(a b:Int)(w:World)(h:c8 w v l):Calls Tryz.prog 56 #[.agg #[v],vi a,vi b] w fun e S=>∃V k q t,e=.returned (.tuple #[CV (csK l a b) V k (csA l a b) (csB l a b) (csS l a b) (csP l a b) q t 0,.bool (B8 l a b)])/\Own4 w S V k q t (csG l a b) [] [] []/\Ext w S:=by
 obtain⟨B,Z,F,C,H,E,s⟩:=m04 42 h;clear h;obtain⟨wc,p⟩:=nq (B.alloc (.cells #[vi 0,.slice none 0 0,.slice none 0 0,vi 0,vi 0,vi 0,vi 0,.slice none 0 0,.slice none 0 0,vi 0] 52));have u:Blk wc B.heap.size 52 #[vi 0,.slice none 0 0,.slice none 0 0,vi 0,vi 0,vi 0,vi 0,.slice none 0 0,.slice none 0 0,vi 0]:=by rw[p];exact oq _ _ _
 have U:Res wc B.heap.size 10:=u.res zm;have A:Ext B wc:=by rw[p];exact E.alloc _
 replace E:=er wc;have K:Hid (B.heap.size+1=wc.heap.size):=zh (by rw[p];simp[go_sem]);have J:=zh p;clear p u;have g:=sh A H;have L:=sh A C;have p:B.heap.size<wc.heap.size:=by have:=K.o;omega
 cases f:B8 l a b
 . have N:=zh (lf8 f);go_in;go_wp2_with fail;rw[<-Z.o,<-J.o];rw[s.o];refine cm (dd4 _ _ _ _ _ (g _ E) f) fun G z=>?_;have r:=U.ext z;unfold Res at r;go_wp2_with fail;exact bodyPost_ret (v:=.tuple #[CV 0 (.slice none 0 0) (.slice none 0 0) 0 0 0 0 (.slice none 0 0) (.slice none 0 0) 0,.bool false]) (by simp[results,Tryz.results56,go_sem,r,CV]) rfl ⟨_,_,_,_,by rw[N.o.1,N.o.2.1,N.o.2.2.1,N.o.2.2.2.1,N.o.2.2.2.2.1],by rw[N.o.2.2.2.2.2];exact⟨oL _ _ _,oL _ _ _,oL _ _ _,oL _ _ _,l5.nil_left _,l5.nil_left _,l5.nil_left _,l5.nil_left _,l5.nil_left _,l5.nil_left _⟩,F.trans (by(repeat(refine oZ ?_ (oc _) _));exact A.trans z)⟩
 have j:=f;obtain⟨m,n,rfl,rfl,-,-,-,-,M,d,Y,-,-⟩:=N6 f;have N:=zh (jr4 j);have R:=zh Y;obtain⟨a,rfl⟩:=nq (m);obtain⟨b,rfl⟩:=nq (n);clear Y;go_in;go_wp2_with fail;rw[<-Z.o,<-J.o];rw[s.o];refine cm (d71 _ _ _ _ _ (g _ E) j) fun G z=>?_;have kb:=L _ z;replace E:=z;clear f j;go_wp2_with fail;have hD:=E.drew;(first|(go_region_held3 (fun W=>Ext (B) W/\W.cell? (aD w.heap.size 0)=some v/\(∀i,i<10->W.cell? (aD ((B).heap.size) i)=some (At W (aD ((B).heap.size) i))/\W.frozen? (aD ((B).heap.size) i)=false)) (exact⟨(by(repeat(refine oZ ?_ (oc _) _));exact og A xq),C _ (by(repeat(refine oZ ?_ (oc _) _));exact og A xq),(by(repeat(refine Res.setCell ?_ _ _));exact Res.ext U xq)⟩) (first|(go_at_call 123;((with_reducible refine od (b07 _ _ _ (g _ xq)) ?_);rintro e wd⟨x,c,rfl,O,y⟩;have hc:=og (a:=wc) xq y))|(go_at_call 145;((with_reducible refine od (E6 _ _ _ _ _ (g _ xq) R M d) ?_);rintro e wa⟨rfl,X⟩;have I:=og (a:=wc) xq X))))|(fail "the region with a result"));go_wp2_with fail;have r:=U.ext I;unfold Res at r;have D:=(O.ext X).mono (show Ext wc _ by repeat(first|assumption|exact er _|(apply pA;assumption)|apply pB|apply oQ));exact bodyPost_ret (v:=.tuple #[CV 1 (.slice x l.length c) (.slice none 0 0) (a:Int) (b:Int) (j7 l a b:Int) (kpH l a b:Int) (.slice none 0 0) (.slice none 0 0) 0,.bool true]) (by simp[results,Tryz.results56,go_sem,r,CV]) rfl ⟨_,_,_,_,by rw[N.o.1,N.o.2.1,N.o.2.2.1,N.o.2.2.2.1,N.o.2.2.2.2.1],by rw[N.o.2.2.2.2.2];exact⟨(show Own 3 wc _ _ _ by(repeat(refine oV ?_ p _));exact D).mono (F.trans A),oL _ _ _,oL _ _ _,oL _ _ _,l5.nil_right _,l5.nil_right _,l5.nil_right _,l5.nil_left _,l5.nil_left _,l5.nil_left _⟩,F.trans (by(repeat(refine oZ ?_ (oc _) _));exact A.trans I)⟩
end Go.Zz
