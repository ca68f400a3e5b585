/- Rows of slices: copies into fresh rows, cuts, indices. -/
import Derived.Test.YtjhoafjeopcheaaGreatGr29
import Derived.Test.YtjhoafjeopcheaaGreatGr22
set_option linter.all false
set_option maxHeartbeats 4000000
set_option maxRecDepth 8000
namespace Go.Zz
open Go.RowKit Go.Proofs
variable{L M:List Value}{W e G P w:World}{V y v u:Value}{i n c g b k:Nat}{A:Option Addr}{x X:LN}{l:LI}
theorem E0.alloc{TE:TypeId}(h:E0 TE P w v L)(o:Obj):E0 TE P (w.alloc o) v L:=h.ext ((er w).alloc o)
theorem E0.drew{TE:TypeId}(h:E0 TE P w v L):E0 TE P w.drew v L:=h.ext ((er w).drew)
theorem jx2{TE:TypeId}(B:Blk w g TE #[])(h:P.heap.size<=g):E0 TE P w (.slice (some (aD g 0)) 0 0) []:=by
 have H:w.heap[g]?=some (.cells #[] TE (0,0)):=B;exact⟨zm,⟨zm,Or.inr ⟨g,0,#[],rfl,h,H,oc _,oX _,zm,zm⟩⟩,zm⟩
theorem cr4{TE:TypeId}(h:Blk w g TE #[y]):Y3 w (.slice (some (aD g 0)) 1 1) [y]:=by
 refine Or.inr ⟨(aD g 0),1,rfl,fun j x K=>?_⟩;have H:j<1:=by have:=(List.getElem?_eq_some_iff.1 K).1;simpa using this
 have e:j=0:=om;subst e;rw[pe,oM];exact h.cell (i:=0) (by simpa using K)
theorem Y3.ext(h:Y3 w u M)(E:Ext w e):Y3 e u M:=by
 rcases h with h|⟨d,c,rfl,H⟩;exact Or.inl h;exact Or.inr ⟨d,c,rfl,fun j x K=>E.cell (H j x K)⟩
theorem d25(h:Y3 w (.slice A n c) M)(V:k<=M.length)(N:M.length=n):Y3 w (.slice A k c) (M.take k):=by
 have l:(M.take k).length=k:=by rw[ol];omega
 rcases h with⟨v,rfl⟩|⟨d,C,v,H⟩;simp only[Value.slice.injEq]at v;obtain⟨rfl,-,rfl⟩:=v;have:k=0:=(by simpa using V);subst this;exact Or.inl ⟨rfl,zm⟩;simp only[Value.slice.injEq]at v;obtain⟨rfl,-,rfl⟩:=v;refine Or.inr ⟨d,c,by rw[l],fun j x K=>H j x ?_⟩;have J:j<k:=(by have:=(List.getElem?_eq_some_iff.1 K).1;omega);rwa [List.getElem?_take_of_lt J]at K
theorem d22(h:Y3 w (.slice A n c) M)(V:k<=M.length)(N:M.length=n)(hc0:n<=c):Y3 w (br4 A n c k) (M.drop k):=by
 have l:(M.drop k).length=n-k:=by rw[pc];omega
 rcases h with⟨v,rfl⟩|⟨d,y,v,C⟩
 . simp only[Value.slice.injEq]at v;obtain⟨rfl,rfl,rfl⟩:=v;refine Or.inl ⟨?_,zm⟩;unfold br4;split<;>simp
 simp only[Value.slice.injEq]at v;obtain⟨rfl,-,rfl⟩:=v;unfold br4;by_cases e:c=k;rw[if_pos e];refine Or.inr ⟨d,c-k,by rw[l],fun j x K=>?_⟩;have:=(List.getElem?_eq_some_iff.1 K).1;omega;rw[if_neg e];refine Or.inr ⟨d.add k,c-k,by rw[l];rfl,fun j x K=>?_⟩;rw[show(d.add k).add j=d.add (k+j) by unfold Addr.add;by_cases H:k=0<;>by_cases r:j=0<;>simp[H,r,qb]];exact C _ x (by rwa [List.getElem?_drop]at K)
theorem bg5{T:TypeId}(H:Tryz.prog.underlying T=some (.slice (Tryz.prog.elem T)))(S:∀w,(Go.sizeOf (Tryz.prog.elem T)).run Tryz.prog w=.ok 1 w)(g n c:Nat):∀(i:Nat) W,i<n->(Instr.indexAt T (.slice (some (aD g 0)) n c) (vi (i:Int))).run Tryz.prog W=.ok (.pointer (some (aD g i))) W:=fun i W J=>by
 rw[run_indexAt_slice (h:=H),if_pos om,S]
 simp[Result.andThen,pe]
section
variable {ops:Array Oper} {rest:List Oper} {o:Oper} {a:Act} {Q:Exit->Act->World->Prop} {TS TE:TypeId}
theorem d82{k:Act->World->Prop}{y:Prop}(t:SlT TS TE)(H:o.guard=none)(s x:Operand)(p:o.op=Op.call { callee:=Callee.builtin Builtin.append,args:=#[s,x],argTypes:=#[TS,TS] })
 (g:Nat) (u:Value) (M:List Value) (S:a.eval s=.slice (some (aD g 0)) 0 0) (K:a.eval x=u) (B:Blk w g TE #[]) (I:Y3 w u M) (m:∀u∈M,u.oneCell'=true) (P:World) (U:P.heap.size<=g) (E:Ext P w) (n:M.length<=1000000000000)
 (V:∀v e,E0 TE P e v M->Ext P e->w.grownBy e (some g)->k (a.put o.dst v) e) :
 if Region.wanted o (yielded ops a.tmps)=true then Oper.wp Tryz.prog o a w k Q else y :=
 b73 t H s x p P _ u [] M (jx2 B U) I m E (by simpa using n) S K fun v e h T _ r=>V v e (by simpa using h) r T
end
def T8(w:World)(L:List Value)(A:List (LN)):Prop:=L.length=A.length/\∀i,i<A.length->R6 w (L.getD i (.slice none 0 0)) (A.getD i [])
theorem T8.ext{A:List (LN)}(h:T8 w L A)(E:Ext w e):T8 e L A:=⟨h.1,fun i J=>(h.2 i J).ext E⟩
theorem T8.one{a:LN}(h:R6 w u a):T8 w [u] [a]:=⟨rfl,fun i J=>by
 have:i=0:=by simp at J;omega
 subst this;exact h⟩
theorem T8.append{A B:List (LN)}(h:T8 w L A)(k:T8 w M B):T8 w (L++M) (A++B):=by
 refine⟨by rw[oh,oh,h.1,k.1],fun i J=>?_⟩;have l:=h.1;by_cases e:i<A.length;have R:(L++M).getD i (.slice none 0 0)=L.getD i (.slice none 0 0):=(by simp[List.getD,List.getElem?_append_left (show i<L.length by omega)]);have E:(A++B).getD i []=A.getD i []:=(by simp[List.getD,List.getElem?_append_left e]);rw[R,E];exact h.2 i e;have R:(L++M).getD i (.slice none 0 0)=M.getD (i-A.length) (.slice none 0 0):=(by simp[List.getD,List.getElem?_append_right (show L.length<=i by omega),l]);have E:(A++B).getD i []=B.getD (i-A.length) []:=(by simp[List.getD,List.getElem?_append_right (show A.length<=i by omega)]);rw[R,E];exact k.2 _ (by rw[oh]at J;omega)
theorem T8.take{A:List (LN)}(h:T8 w L A)(k:Nat):T8 w (L.take k) (A.take k):=by
 refine⟨by rw[ol,ol,h.1],fun i J=>?_⟩;rw[ol]at J;have E:(L.take k).getD i (.slice none 0 0)=L.getD i (.slice none 0 0):=by simp[List.getD,List.getElem?_take_of_lt (show i<k by omega)]
 have e:(A.take k).getD i []=A.getD i []:=by simp[List.getD,List.getElem?_take_of_lt (show i<k by omega)]
 rw[E,e];exact h.2 i om
theorem T8.drop{A:List (LN)}(h:T8 w L A)(k:Nat):T8 w (L.drop k) (A.drop k):=by
 refine⟨by rw[pc,pc,h.1],fun i J=>?_⟩;rw[pc]at J;have E:(L.drop k).getD i (.slice none 0 0)=L.getD (k+i) (.slice none 0 0):=by simp[List.getD,List.getElem?_drop]
 have e:(A.drop k).getD i []=A.getD (k+i) []:=by simp[List.getD,List.getElem?_drop]
 rw[E,e];exact h.2 _ om
theorem T8.all{A:List (LN)}(h:T8 w L A):∀u∈L,u.oneCell'=true:=fun u H=>by
 obtain⟨i,J,rfl⟩:=px H
 have:=h.2 i (by rw[<-h.1];exact J)
 simpa[List.getD,J]using this.one
theorem I1.rows{A:List (LN)}(h:I1 P w v A):∃L,E0 40 P w v L/\T8 w L A:=by
 obtain⟨L,H,r,T⟩:=h;exact⟨L,r,H,T⟩
theorem dc5{A:List (LN)}(h:E0 40 P w v L)(k:T8 w L A):I1 P w v A:=⟨L,k.1,h,k.2⟩
theorem E0.getD{TE:TypeId}(h:E0 TE P w v L):∀u∈L,u.oneCell'=true:=h.1
def atB(l:LI):Bool:=d7 l&&decide (ord l<=7)
theorem l75{A:List (LN)}(J:i<A.length):isA (A.take (i+1))=c87 (A.getD i []) (isA (A.take i)):=by
 rw[pa J,cx0];congr 1;simp[List.getD,J]
theorem dx7{A:List (LN)}(J:i<=A.length):(isA (A.take i)).length=i:=by
 rw[(c88 _).length_eq,ol];omega
theorem ju0{o:List (LN)}(h:Q2 x (o.getD k [])<0):U0 x o (k+1)=U0 x o k:=by rw[U0,if_pos h]
theorem ju1{o:List (LN)}(h:¬Q2 x (o.getD k [])<0):U0 x o (k+1)=k+1:=by rw[U0,if_neg h]
theorem j99(v:Value)(l:LI)(w:World)(h:c8 w v l)(n:atB l=false):Calls Tryz.prog 283 #[.agg #[v]] w fun e P=>∃V,e=.returned (.tuple #[V,.bool false])/\Ext w P:=by
 obtain⟨B,Z,F,C,H,E,s⟩:=m04 42 h;clear h;have c:=fun W (D:Ext B W)=>C4 v l W (H W D);have z:=E.alloc (.cells #[] 40);have K:=C _ z;cases Y:d7 l
 . rw[Y]at c;go_in;go_wp2_with fail;rw[<-Z.o];rw[s.o];go_wp2_with(go_at_call 52;refine cm (c _ z) fun G I=>?_;have b:=C _ (z.trans I));exact zz64
 rw[Y]at c;have R:=zh Y;have k:¬(ord l<=7):=by
  intro k;unfold atB at n;rw[Y,decide_eq_true k]at n;cases n
 have i:(7:Int)<(ord l:Int):=om;exact zz46
theorem zz139{P:Prop}(h:P:=by exact⟨i+1,om,zg,by rw[Ha.o];exact(dc5 hG (hc.o.ext (s.trans hf))).mono (Hg.o.trans (Hc.o.trans hq)),hq.trans hf⟩):P:=h
theorem j28(v:Value)(l:LI)(w:World)(h:c8 w v l)(hn:atB l=true):Calls Tryz.prog 283 #[.agg #[v]] w fun e w'=>∃v',e=.returned (.tuple #[v',.bool true])/\I1 w w' v' (atS l)/\Ext w w':=by
 obtain⟨B,Z,F,C,H,E,Hz⟩:=m04 42 h;clear h;obtain⟨Y,h9⟩:d7 l=true/\ord l<=7:=by unfold atB at hn;simpa using hn
 have R:=zh Y;have cG:=fun W (D:Ext B W)=>C4 v l W (H W D);rw[Y]at cG;have ae:=ce8 Y h9;have aC:=l8 Y;clear Y hn;have X:=fun W (D:Ext B W)=>o4 v l W (H W D) R;have aF:¬(7:Int)<(ord l:Int):=om;have z:=E.alloc (.cells #[] 40);have hy:I1 B (B.alloc (.cells #[] 40)) (.slice (some (aD B.heap.size 0)) 0 0) []:=ci9 E;have cA:∀W,Ext B W->Calls Tryz.prog 325 #[.agg #[v],.slice (some (aD W.heap.size 0)) 0 0,vi 0,vi 0,.slice (some (aD (W.heap.size+1) 0)) 0 0] ((W.alloc (.cells #[] 3)).alloc (.cells #[] 40)) fun e w'=>∃va,e=.returned va/\I1 B w' va (atL l)/\Ext W w':=fun W D=>by
  have ah:(W.alloc (.cells #[] 3)).heap.size=W.heap.size+1:=zm
  have hX:=(er W).alloc (.cells #[] 3)
  have hY:=hX.alloc (.cells #[] 40)
  have ab:=ci9 (w0:=B) (D.trans hX)
  rw[ah]at ab
  refine(jn3 v l R B (zh H) (ord l+1) [] 0 0 [] _ _ _ (D.trans hY) (Or.inl ⟨rfl,_,_,rfl⟩) ab (qO _) (pZ 0) om om zm zm (by simpa[atL]using ae)).mono ?_
  rintro e w'⟨va,rfl,h1,r,T⟩
  exact⟨va,rfl,by simpa[atL]using h1,hY.grown r fun k V=>by simp[Value.ownBlock]at V;omega⟩
 obtain⟨wc,hx⟩:=nq (B.alloc (.cells #[] 40));rw[<-hx]at z hy;have af:=C _ z;have Hh:=zh hx;clear hx;have Hd:Hid (atS l=isA ((atL l).take (atL l).length)):=zh (by rw[oz];rfl);obtain⟨A,hN⟩:=nq (atL l);rw[<-hN]at ae Hd;simp only[<-hN]at cA;clear hN;go_in;go_wp2_with fail;rw[<-Z.o];rw[Hz.o];rw[<-Hh.o];go_wp2_with(first|(go_at_call 52;refine cm (cG _ z) fun G I=>?_;have d:=z.trans I;have ag:=C _ d)|(go_at_call 103;refine cm (X _ d) fun w3 hw=>?_;replace d:=d.trans hw;replace I:=I.trans hw;have am:=C _ d;have au:=C _ ((d.alloc (.cells #[] 3)).alloc (.cells #[] 40)))|(go_at_call 325;refine(cA _ d).mono ?_;rintro e w6⟨vl,rfl,hT,hz⟩;have aA:=hT;obtain⟨aK,ca,rfl,aL,ad⟩:=hT.shape));have Hf:=zh (hy.ext (I.trans hz));have Hg:=zh (F);have ar:=d.trans hz;have Hc:=zh ar;have Hi:=zh ad;clear hy I z af E hw hz d cA ad hT aA;go_loopw [4,6] (fun so si wr=>∃i:Nat,i<=A.length/\si=vi i/\I1 w wr so (isA (A.take i))/\Ext w6 wr) (fun _ si _=>A.length-(intOf si).toNat);exact⟨0,om,rfl,by simpa[isA]using Hf.o.mono F,er _⟩
 clear Hf;obtain⟨i,J,rfl,O,hr⟩:=hrel;have hQ:=dx7 J;by_cases U:i<A.length
 . have ai:(i:Int)<(A.length:Int):=om;have Hs:=zh (l75 U);obtain⟨K,hZ⟩:=nq (isA (A.take i));rw[<-hZ]at O hQ Hs;obtain⟨gA,y,rfl,aa,hM⟩:=Hi.o i U;obtain⟨p,S,N,rfl⟩:∃ao n c,y=.slice ao n c:=(by obtain⟨-,g,cap,cs,h,-⟩:=hM;exact⟨_,_,_,h⟩);obtain⟨L,hL,ac⟩:=O.rows;have aB:=O.shape;obtain⟨j,X,rfl,hR,hU⟩:=aB;rename World=>wo;have HL:=zh hL;have m:=zh ac;have Hy:=zh (hM.ext hr);have Hb:Hid (∀W,Ext wo W->W.cell? (aD gA i)=some (Value.slice p S N)):=zh (fun W D=>(hr.trans D).cell aa);have HO:=zh hU;have Hr:=zh hr;have Hl:=zh hQ;have aH:K.length<=48:=om;have aJ:=bg5 elV szV gA A.length ca;obtain⟨b,hV⟩:=nq (A.getD i []);rw[<-hV]at Hs Hy;have HI:=zh hV;have s:=er wo;clear hL ac hU hr hQ hZ aa hM hV O ag am au;go_wp2_with fail;go_loopw [7] (fun sk wq=>∃k:Nat,k<=K.length/\sk=vi k/\Hid (U0 b K K.length=U0 b K k)/\Ext wo wq) (fun sk _=>(intOf sk).toNat);exact⟨K.length,oc _,rfl,zh rfl,s⟩;case round =>
    clear s;obtain⟨k,V,rfl,Hk,s⟩:=hrel;have ht:=s;by_cases aj:k=0
    . subst aj;have E:=er wr;go_wp2_with fail;refine wl E ?_;(repeat(go_big_quiet_step(first|(fail "no call"))));refine zd fun W E=>?_;have s:=ht.trans E;clear E ht;rename World=>wr;have hI:=fun W=>U6 (P:=Tryz.prog) elV szV j K.length X (0:Int) om om W;have hJ:=fun W=>Y0 (P:=Tryz.prog) elV szV j K.length X (0:Int) om om W;have hA:=fun W=>T6 (P:=Tryz.prog) elV szV j K.length X (0:Int) om om W;have hK:=fun W=>S6 (P:=Tryz.prog) elV szV j K.length X (0:Int) om om W;rw[show((0:Int):Int).toNat=0 by omega]at hI hJ hA hK;have hq:=Hr.o.trans s;have ha:L.length=K.length:=m.o.1;have HA:=zh (fun W (D:Ext wr W)=>(d25 (HL.o.cells) (k:=0) om ha).ext (s.trans D));have HB:=zh (fun W (D:Ext wr W)=>(d22 (HL.o.cells) (k:=0) om ha hR).ext (s.trans D));have hl:=m.o.all;have he:∀u∈L.take 0,u.oneCell'=true:=fun u M=>hl u (pJ M);have hm:∀u∈L.drop 0,u.oneCell'=true:=fun u M=>hl u (List.mem_of_mem_drop M);have hP:∀u∈[(Value.slice p S N)],u.oneCell'=true:=(by intro u M;rw[oE]at M;subst M;exact Hy.o.one);have hh:(L.take 0).length<=1000000000000:=(by rw[ol];omega);have hj:(L.take 0).length+[(Value.slice p S N)].length<=1000000000000:=(by rw[ol,oo];omega);have q:(L.take 0++[(Value.slice p S N)]).length+(L.drop 0).length<=1000000000000:=(by rw[oh,ol,oo,pc];omega);have K1:=sh s Hb.o;have hc:=zh (((m.o.take 0).append (T8.one Hy.o)).append (m.o.drop 0));have Ha:Hid (isA (A.take (i+1))=K.take 0++[b]++K.drop 0):=zh (by rw[Hs.o];unfold c87;rw[Hk.o];try rfl);obtain⟨M1,ho⟩:=nq (L.take 0);obtain⟨M2,hp⟩:=nq (L.drop 0);rw[<-ho]at HA he hh hj q hc;rw[<-hp]at HB hm q hc;clear ho hp hl ha;have E:=er wr;go_wp2_with fail;first|(go_region_held3 (fun W=>Ext wr W/\W.cell? (aD gA i)=some (Value.slice p S N)) (exact⟨xr,K1 _ xr⟩) (first|(have hH:=hD;(refine b73 slV rfl _ _ rfl wr vD (br4 j K.length X 0) (M1++[(Value.slice p S N)]) M2 (by repeat(first|(with_reducible exact hD)|(with_reducible apply E0.alloc)|(with_reducible apply E0.drew))) (HB.o _ xr) hm xr q rfl rfl ?_);intro vF wF hG az aw hf)|(have hH:=hC;(refine b73 slV rfl _ _ rfl wr vC _ M1 [(Value.slice p S N)] (by repeat(first|(with_reducible exact hC)|(with_reducible apply E0.alloc)|(with_reducible apply E0.drew))) (cr4 (TE:=40) (by first|(with_reducible exact oq _ _ _)|(refine Blk.grown ?_ hS (by intro k V;have an:=Option.some.inj V;omega);refine qD ?_;first|(refine Blk.new' ?_;simp;done)|(refine qp ?_ _;exact oq _ _ _)))) hP xr hj rfl rfl ?_);intro vD wD hD ay ax ak)|((refine d82 slV rfl _ _ rfl _ (.slice j 0 X) M1 rfl rfl ?_ ?_ he wr ?_ ?_ hh ?_);(focus(repeat(first|(with_reducible assumption)|(with_reducible exact oq _ _ _)|((with_reducible refine Blk.new' ?_);first|rfl|(simp[go_sem];done))|(with_reducible apply qp)|(with_reducible apply qD))));(exact HA.o _ xr);(focus(first|exact oc _|omega|(simp;omega)));(exact xr);(intro vC wC hC ap hS))))|(fail "the region")
      all_goals
       go_wp2_with fail
       go_roundw
       case rel=>exact zz139
       case measure=>exact zm1
    . have aE:(0:Int)<(k:Int):=om;have aG:0<k:=om;obtain⟨f,uO,rfl,av,aq⟩:=HO.o (k-1) om;have ia:∀W,(Instr.indexAt 92 (.slice (some (aD f 0)) K.length X) (vi ((k:Int)-1))).run Tryz.prog W=.ok (.pointer (some (aD f (k-1)))) W:=fun W=>(by rw[show((k:Int)-1)=((k-1:Nat):Int) by omega];exact bg5 elV szV f K.length X (k-1) W om);have kA:=fun UU=>Hb.o _ (s.trans (c9 wr UU));have kO:=fun UU=>(s.trans (c9 wr UU)).cell av;have cB:=fun W (D:Ext wo W)=>ja0 _ uO b (K.getD (k-1) []) W (Hy.o.ext D).ints (aq.ext D).ints;have He:=zh (fun h=>ju0 (x:=b) (o:=K) (k:=k-1) h);have Ht:=zh (fun h=>ju1 (x:=b) (o:=K) (k:=k-1) h);rw[show k-1+1=k by omega]at He Ht;have hs:=s;have E:=er wr;by_cases hd:Q2 b (K.getD (k-1) [])<0
      . have Hn:Hid (U0 b K K.length=U0 b K (k-1)):=zh (by rw[Hk.o,He.o hd]);simp only[decide_eq_true hd]at cB;clear hd s ht;go_wp2_with fail;refine wl E ?_;(repeat(go_big_quiet_step(first|(go_at_call 326;with_reducible exact oa (cB _ (hs.trans (c9 wr _)))))));refine zd fun W E=>?_;go_wp2_with fail;go_roundw;exact⟨k-1,om,by congr 1;omega,Hn,hs.trans E⟩;exact zm1
      . have Hj:Hid (U0 b K K.length=k):=zh (by rw[Hk.o,Ht.o hd]);simp only[decide_eq_false hd]at cB;clear hd s ht;go_wp2_with fail;refine wl E ?_;(repeat(go_big_quiet_step(first|(go_at_call 326;with_reducible exact oa (cB _ (hs.trans (c9 wr _)))))));refine zd fun W E=>?_;have s:=hs.trans E;have Hk:=Hj;clear E;rename World=>wr;have hI:=fun W=>U6 (P:=Tryz.prog) elV szV (some (aD f 0)) K.length X (k:Int) om om W;have hJ:=fun W=>Y0 (P:=Tryz.prog) elV szV (some (aD f 0)) K.length X (k:Int) om om W;have hA:=fun W=>T6 (P:=Tryz.prog) elV szV (some (aD f 0)) K.length X (k:Int) om om W;have hK:=fun W=>S6 (P:=Tryz.prog) elV szV (some (aD f 0)) K.length X (k:Int) om om W;rw[show((k:Int):Int).toNat=k by omega]at hI hJ hA hK;have hq:=Hr.o.trans s;have ha:L.length=K.length:=m.o.1;have HA:=zh (fun W (D:Ext wr W)=>(d25 (HL.o.cells) (k:=k) om ha).ext (s.trans D));have HB:=zh (fun W (D:Ext wr W)=>(d22 (HL.o.cells) (k:=k) om ha hR).ext (s.trans D));have hl:=m.o.all;have he:∀u∈L.take k,u.oneCell'=true:=fun u M=>hl u (pJ M);have hm:∀u∈L.drop k,u.oneCell'=true:=fun u M=>hl u (List.mem_of_mem_drop M);have hP:∀u∈[(Value.slice p S N)],u.oneCell'=true:=(by intro u M;rw[oE]at M;subst M;exact Hy.o.one);have hh:(L.take k).length<=1000000000000:=(by rw[ol];omega);have hj:(L.take k).length+[(Value.slice p S N)].length<=1000000000000:=(by rw[ol,oo];omega);have q:(L.take k++[(Value.slice p S N)]).length+(L.drop k).length<=1000000000000:=(by rw[oh,ol,oo,pc];omega);have K1:=sh s Hb.o;have hc:=zh (((m.o.take k).append (T8.one Hy.o)).append (m.o.drop k));have Ha:Hid (isA (A.take (i+1))=K.take k++[b]++K.drop k):=zh (by rw[Hs.o];unfold c87;rw[Hk.o];try rfl);obtain⟨M1,ho⟩:=nq (L.take k);obtain⟨M2,hp⟩:=nq (L.drop k);rw[<-ho]at HA he hh hj q hc;rw[<-hp]at HB hm q hc;clear ho hp hl ha;have E:=er wr;go_wp2_with fail;first|(go_region_held3 (fun W=>Ext wr W/\W.cell? (aD gA i)=some (Value.slice p S N)) (exact⟨xr,K1 _ xr⟩) (first|(have hH:=hD;(refine b73 slV rfl _ _ rfl wr vD (br4 (some (aD f 0)) K.length X k) (M1++[(Value.slice p S N)]) M2 (by repeat(first|(with_reducible exact hD)|(with_reducible apply E0.alloc)|(with_reducible apply E0.drew))) (HB.o _ xr) hm xr q rfl rfl ?_);intro vF wF hG az aw hf)|(have hH:=hC;(refine b73 slV rfl _ _ rfl wr vC _ M1 [(Value.slice p S N)] (by repeat(first|(with_reducible exact hC)|(with_reducible apply E0.alloc)|(with_reducible apply E0.drew))) (cr4 (TE:=40) (by first|(with_reducible exact oq _ _ _)|(refine Blk.grown ?_ hS (by intro k V;have an:=Option.some.inj V;omega);refine qD ?_;first|(refine Blk.new' ?_;simp;done)|(refine qp ?_ _;exact oq _ _ _)))) hP xr hj rfl rfl ?_);intro vD wD hD ay ax ak)|((refine d82 slV rfl _ _ rfl _ (.slice (some (aD f 0)) k X) M1 rfl rfl ?_ ?_ he wr ?_ ?_ hh ?_);(focus(repeat(first|(with_reducible assumption)|(with_reducible exact oq _ _ _)|((with_reducible refine Blk.new' ?_);first|rfl|(simp[go_sem];done))|(with_reducible apply qp)|(with_reducible apply qD))));(exact HA.o _ xr);(focus(first|exact oc _|omega|(simp;omega)));(exact xr);(intro vC wC hC ap hS))))|(fail "the region")
        all_goals
         go_wp2_with fail
         go_roundw
         case rel=>exact zz139
         case measure=>exact zm1
 have ai:¬(i:Int)<(A.length:Int):=om;have al:i=A.length:=om;rw[al,<-Hd.o]at O;obtain⟨j,X,rfl,hR,hU⟩:=O.shape;go_wp2_with fail;exact br (.tuple #[.slice j (atS l).length X,.bool true]) ⟨_,rfl,O,F.trans (Hc.o.trans hr)⟩
theorem jw1(h:d7 l=true):q7 l 0=0:=by
 have H:=m0 h;have U:=P0 l H 0;rwa [C9 l H _ (U5 l H 0)]at U
theorem bz7{z:Nat}(h:b01 (b9 X)=true)(Z:X.length≠0->d5 X (X.length-1)<=z):b01 (b9 (X++[z]))=true:=by
 rw[bz6]at h|-;intro j H f;rw[d9,oh,oo]at f;rw[P7,P7];by_cases e:j<X.length;have:=h j H (by rw[d9];exact e);rw[P7,P7]at this;have R:d5 (X++[z]) (j-1)=d5 X (j-1):=(by simp[d5,List.getD,List.getElem?_append_left (show j-1<X.length by omega)]);have E:d5 (X++[z]) j=d5 X j:=(by simp[d5,List.getD,List.getElem?_append_left e]);rw[R,E];exact this;have J:j=X.length:=om;have R:d5 (X++[z]) (j-1)=d5 X (X.length-1):=by
  subst J;simp[d5,List.getD,List.getElem?_append_left (show X.length-1<X.length by omega)]
 have E:d5 (X++[z]) j=z:=(by subst J;simp[d5,List.getD]);rw[R,E];have:=Z om;omega
theorem jj0(H:d7 l=true)(u:∀x∈X,x<ord l)(L:X.length<=11)(S:b01 (b9 (X++[atZ l X]))=true):zsB l (b9 (X++[atZ l X]))=true:=by
 have z:atZ l X<ord l:=U5 l (m0 H) _;have q:q8 l (b9 (X++[atZ l X]))=true:=by
  unfold q8;rw[H,S];have U:(b9 (X++[atZ l X])).all (M7 l)=true:=by
   rw[oC];intro y Y;obtain⟨n,h,rfl⟩:=pp.1 Y;rw[oP,oE]at h;refine bk3 H ?_;rcases h with h|rfl
   exact u n h;exact z
  rw[U];have r:(b9 (X++[atZ l X])).length<=12:=by rw[d9,oh,oo];omega
  simp[r]
 rw[de9 q,bl7];have:j9 l (tot l X) (atZ l X)=0:=P0 l (m0 H) _;rw[this];rfl
def J0(X:LN):Nat:=if X.length=0 then 0 else d5 X (X.length-1)
theorem l35(H:d7 l=true)(u:∀x∈X,x<ord l)(L:X.length<=11)(S:b01 (b9 X)=true):atC l X (J0 X)=((decide (X.length=0) || decide (d5 X (X.length-1)<=atZ l X))&&b27 l (b9 (X++[atZ l X]))):=by
 unfold atC J0;by_cases T:X.length=0;have n:X=[]:=oF T;subst n;have Z:atZ l []=0:=jw1 H;have z:=jj0 H u L (bz7 S (fun h=>absurd rfl h));rw[c67 z zm,Z];simp;rw[if_neg T,decide_eq_false T,Bool.false_or];have d:decide (X.length≠0)=true:=decide_eq_true T;rw[d,Bool.true_or,Bool.and_true];by_cases U:d5 X (X.length-1)<=atZ l X;have z:=jj0 H u L (bz7 S (fun _=>U));rw[c67 z zm];rw[decide_eq_false U];rfl
def bb5(P:World)(b:Nat)(w:World)(V:Value)(A:List (LN))(v:Value)(e:World):Prop:=Blk e b 92 #[v]/\I1 P e v A/\Fr b V.ownBlock w e/\Nw V.ownBlock w v.ownBlock
theorem d53{A:List (LN)}{a:LN}(h:T8 w L A)(f:E0 40 P W v L)(E:Ext w W)(H:R6 W y a)(O:E0 40 P e V (L++[y]))(G:W.grownBy e v.ownBlock):I1 P e V (A++[a]) :=
 I1.more h.1 f (fun i J=>(h.ext E).2 i J) H O G
theorem I1.set_ne{A:List (LN)}(h:I1 P w v A){c:Array Value}(B:Blk w b 92 c)(u:Value):I1 P (w.setCell (aD b i) u) v A:=by
 obtain⟨L,H,r,T⟩:=h;exact⟨L,H,r.set_ne (r.not B (by decide)) u,fun j J=>(T j J).other B (by decide) i u⟩
theorem zz6{P:Prop}(h:P:=by rw[A]at C;clear A;go_wp2_with(first|(go_at_call 170;refine(E3 _ _ _ (n.o _ E)).mono ?_;rintro e w3⟨v3,rfl,g,F⟩)|(at_builtin;refine p6 slI rfl _ _ rfl w1 _ _ _ _ g F he rfl rfl ?_;intro v4 w4 d I;rw[<-Hn.o]at d;obtain⟨ab,c4,rfl,-⟩:=d.shape;have z:=E.trans I;have ka:=G _ z;have U:=d.ints;have hl:=be3 d zm hC)|(go_at_call 178;refine cm (C _ _ z U) fun w5 M=>?_;have h:=z.trans M;have kb:=kO _ h;have r:=hl.ext M;have hh:=r.one;have p:=HL.o.ext h;have hn:=hw.trans h;have hf:=m.o.ext h)|(at_builtin;refine b80 slV rfl _ _ rfl P _ _ L _ hh p hn hr rfl rfl ?_;intro v6 w6 q j N;have B:=hf.grown j He.o;have hN:=B.cell (i:=0) (v:=.slice aO J.length cO) rfl;have hP:=B.free 0;obtain⟨a6,c6,rfl,-⟩:=q.shape));go_end0;have hb:=d53 Hs.o p h r q j;rw[oh,oo]at N hb;refine⟨rfl,_,B.set 0 _,?_,((h.fr b _).trans (Nw.refl _ _) (bu8 j)).trans ((Nw.refl _ _).trans (oc _) (Nw.refl _ _)) (b39 b _ w6 0 _),(Nw.refl _ _).trans h.size N⟩;rw[Y.o];exact hb.set_ne B _):P:=h
theorem zz29{P:Prop}(h:P:=by rw[A]at C;clear A;go_wp2_with(first|(go_at_call 170;refine(E3 _ _ _ (n.o _ E)).mono ?_;rintro e w3⟨v3,rfl,g,F⟩)|(at_builtin;refine p6 slI rfl _ _ rfl w1 _ _ _ _ g F he rfl rfl ?_;intro v4 w4 d I;rw[<-Hn.o]at d;have z:=E.trans I;have ka:=G _ z;have U:=d.ints)|(go_at_call 178;refine cm (C _ _ z U) fun w5 M=>?_));go_end0;have h:=z.trans M;exact⟨rfl,_,by rw[Y.o,pV];exact⟨m.o.ext h,HO.o.ext h,h.fr _ _,Nw.refl _ _⟩⟩):P:=h
theorem jb4(v:Value)(l:LI)(R:Hid (d7 l=true))(P:World)(bG b:Nat)(HG:∀W,Ext P W->W.cell? (aD bG 0)=some v)(HI:Hid (∀W,Ext P W->c8 W v l))
 (X:LN) (J:List (LN)) (SS:Int) (vX vo:Value) (w:World) (hw:Ext P w) (u:b03 w vX X) (hB:Blk w b 92 #[vo]) (O:I1 P w vo J) (hH:X.length<=11) (hp:∀x∈X,x<ord l) (S:b01 (b9 X)=true) (hV:J.length<=48) :
 Calls Tryz.prog 314 #[vX,vi SS,.pointer (some (aD bG 0)),.pointer (some (aD b 0))] w fun e w'=>e=.returned (.tuple #[])/\∃va,bb5 P b w vo (J++atV l X (J0 X)) va w':=by
 have hR:=l8 R.o;have hz:atZ l X<ord l:=U5 l (m0 R.o) _;have hK:∀x∈X,x<24:=fun x K=>by have:=hp x K;omega
 have f:=zh (l35 R.o hp hH S);have H:=sh hw HI.o;have G:=sh hw HG;have n:=zh (fun W (D:Ext w W)=>(u.ext D).ints);have hM:=bo1 R.o X;have cT:=fun W (D:Ext w W)=>ba5 v _ l X W (H W D) (n.o W D) R (zh hK);have cN:=fun W (D:Ext w W)=>bi4 v l (tot l X) W (H W D) R om;have C:=fun W vy (D:Ext w W) (hy:c8 W vy (b9 (X++[atZ l X])))=>d11 v vy l (b9 (X++[atZ l X])) W (H W D) hy;obtain⟨Z,y⟩:=nq (atZ l X);have hA:Z=q7 l (tot l X):=y;rw[<-y]at hz f;simp only[<-hA]at cN;simp only[<-y]at C;have Hz:=zh y;obtain⟨t,ht⟩:=nq (tot l X);simp only[<-ht]at cT cN;clear y hA ht hM;have he:(b9 X).length<17592186044416:=by rw[d9];omega
 have hC:(X++[Z]).length<=1000:=by simp;omega
 have Hn:=zh (G6 X Z);obtain⟨L,hL,hm⟩:=O.rows;have hr:L.length<1000000000000:=by rw[hm.1];omega
 have hD:=O.not hB (by decide);obtain⟨aO,cO,rfl,hU,-⟩:=O.shape;have He:Hid (∀k,(Value.slice aO J.length cO).ownBlock=some k->k≠b):=zh (fun k V e=>hD (by rw[V,e]));have kO:=hB.atc 0 rfl;have HL:=zh hL;have Hs:=zh hm;have HO:=zh O;have m:=zh hB;have Ha:=zh u;obtain⟨aa,cX,rfl⟩:=u.shape;have hi:X.length≠0->∃ar:Nat->Addr,(∀W,(Instr.indexAt 40 (.slice aa X.length cX) (vi ((X.length:Int)-1))).run Tryz.prog W=.ok (.pointer (some (ar (X.length-1)))) W)/\(∀W,Ext w W->W.cell? (ar (X.length-1))=some (vi (d5 X (X.length-1):Nat))):=fun T=>by
  obtain⟨ac,c',aX,hu,hI,hJ⟩:=u.ints.nats
  have hG:=j2 (c:=c') elI szI hI
  simp only[Value.slice.injEq]at hu
  obtain⟨rfl,-,rfl⟩:=hu
  refine⟨aX,fun W=>?_,fun W D=>hJ _ W om D⟩
  rw[show((X.length:Int)-1)=((X.length-1:Nat):Int) by omega]
  exact hG _ W om
 clear u hB O hL hm hD;have E:=er w;have kU:=fun UU=>G _ (c9 w UU);by_cases T:X.length=0
 . have hq:X=[]:=oF T;have s:Hid ((decide (X.length=0) || decide (d5 X (X.length-1)<=Z))=true):=zh (by rw[decide_eq_true T];rfl);subst hq;clear hi T;go_in;go_wp2_with fail;refine wl E ?_;(repeat(go_big_quiet_step(first|(go_at_call 259;with_reducible exact oa (cT _ (c9 w _)))|(go_at_call 315;with_reducible exact oa (cN _ (c9 w _))))));refine zd fun W E=>?_;rename World=>w1;have kc:=G _ E;clear kU;cases A:b27 l (b9 (([]:LN)++[Z]));have Y:Hid (atV l ([]:LN) (J0 ([]:LN))=[]):=zh (by unfold atV;rw[f.o,s.o,A];rfl);exact zz29;have Y:Hid (atV l ([]:LN) (J0 ([]:LN))=[([]:LN)++[Z]]):=zh (by unfold atV;rw[f.o,s.o,A,<-Hz.o];rfl);exact zz6
 have hT:(0:Int)<((X.length:Nat):Int):=om;have hY:(((X.length:Nat):Int) == 0)=false:=(by rw[beq_eq_false_iff_ne];omega);have hq:X≠[]:=fun e=>T (by rw[e];rfl);obtain⟨aX,hS,ho⟩:=hi T;have hv:decide (X.length=0)=false:=decide_eq_false T;rw[hv,Bool.false_or]at f;obtain⟨la,hj⟩:=nq (d5 X (X.length-1));rw[<-hj]at f;simp only[<-hj]at ho;have Hb:=zh T;clear hj hi T hv;go_in;go_wp2_with fail;refine wl E ?_;(repeat(go_big_quiet_step(first|(go_at_call 259;with_reducible exact oa (cT _ (c9 w _)))|(go_at_call 315;with_reducible exact oa (cN _ (c9 w _))))));refine zd fun W E=>?_;rename World=>w1;have kc:=G _ E;have ca:=ho _ E;clear kU ho;by_cases hc:la<=Z;have hQ:(la:Int)<=(Z:Int):=om;have s:Hid (decide (la<=Z)=true):=zh (decide_eq_true hc);clear hc;cases A:b27 l (b9 (X++[Z]));have Y:Hid (atV l X (J0 X)=[]):=zh (by unfold atV;rw[f.o,s.o,A];rfl);exact zz29;have Y:Hid (atV l X (J0 X)=[X++[Z]]):=zh (by unfold atV;rw[f.o,s.o,A,<-Hz.o];rfl);exact zz6;have hQ:¬(la:Int)<=(Z:Int):=om;have Y:Hid (atV l X (J0 X)=[]):=zh (by unfold atV;rw[f.o,decide_eq_false hc];rfl);clear hc;go_wp2_with fail;go_end0;exact⟨rfl,_,by rw[Y.o,pV];exact⟨m.o.ext E,HO.o.ext E,E.fr _ _,Nw.refl _ _⟩⟩
theorem b03.fr{a:LN}{c:Array Value}{A:List (LN)}(h:b03 w u a)(C:Blk w b 92 c)(O:I1 P w v A)(hF:Fr b v.ownBlock w W):b03 W u a:=by
 rcases h with h|⟨S,g,cap,s,H,r,T,d⟩;exact Or.inl h;refine Or.inr ⟨S,g,cap,s,H,r,hF.blk T (fun e=>?_) (O.not T (by decide)),d⟩;subst e;have B:w.heap[g]?=some (.cells c 92 (0,0)):=C;have l:w.heap[g]?=some (.cells s 3 (0,0)):=T;rw[l]at B;simp at B
theorem bb5.trans{w3:World}{O:Value}{A B:List (LN)}(h:bb5 P b w V A v G)(E:Ext G W)(k:bb5 P b W v B O w3):bb5 P b w V B O w3 :=
 ⟨k.1,k.2.1,h.2.2.1.trans h.2.2.2 ((E.fr b v.ownBlock).trans (Nw.refl _ _) k.2.2.1),h.2.2.2.trans h.2.2.1.size ((Nw.refl _ _).trans E.size k.2.2.2)⟩
theorem bb5.ext{A:List (LN)}(h:bb5 P b w V A v G)(E:Ext G W):bb5 P b w V A v W :=
 ⟨h.1.ext E,h.2.1.ext E,h.2.2.1.trans h.2.2.2 (E.fr b v.ownBlock),h.2.2.2⟩
theorem bb5.back{A:List (LN)}(E:Ext w G)(h:bb5 P b G v A V W):bb5 P b w v A V W :=
 ⟨h.1,h.2.1,(E.fr b v.ownBlock).trans (Nw.refl _ _) h.2.2.1,(Nw.refl _ _).trans E.size h.2.2.2⟩
theorem by6(X:LN)(k:Nat):J0 (X++[k])=k:=by unfold J0;simp[d5,List.getD]
theorem zz70{P:Prop}(h:P:=by have hD:¬(k:Int)<(ord l:Int):=om;have hl:k=ord l:=om;have Hn:=zh (show atR l (f+1) X s (J0 X)=atK l f X s (J0 X) k by rw[Hf.o,hl]);clear hl;go_wp2_with(go_at_call 153;refine cm cO fun G z=>?_);go_end0;exact⟨rfl,u,by rw[Hn.o];exact(p.o.ext z).back Hp.o⟩):P:=h
theorem zz83{P:Prop}(h:P:=by have cI:=fun W=>T2 A 0 hc om W t;have Hn:=zh (Ho.o t);clear t;go_wp2_with(go_at_call 205;refine cm (cI _) fun V hb=>?_;subst hb);go_roundw;exact⟨k+1,u,om,om,zg,by rw[Hn.o];exact p.o.ext I⟩;exact zm1):P:=h
theorem le8(v:Value)(l:LI)(R:Hid (d7 l=true))(h7:ord l<=7)(P:World)(bG b:Nat)(HG:∀W,Ext P W->W.cell? (aD bG 0)=some v)(HI:Hid (∀W,Ext P W->c8 W v l))(ap:P.heap.size<=b):∀(f:Nat) (X:LN) (s:Nat) (C:List (LN)) (vX vo:Value) (w:World),Ext P w->b03 w vX X->Blk w b 92 #[vo]->I1 P w vo C->s<2^ord l->s.testBit 0=false->ord l<cnt s+f->X.length<=cnt s->(∀x∈X,x<ord l)->b01 (b9 X)=true->(X.length≠0->1<=d5 X (X.length-1))->C.length+(atR l f X s (J0 X)).length<=48 ->
 Calls Tryz.prog 243 #[.agg #[v],vX,vi s,.func (.func 314) #[] #[.pointer (some (aD bG 0)),.pointer (some (aD b 0))]] w fun e V=>e=.returned (.tuple #[])/\∃va,bb5 P b w vo (C++atR l f X s (J0 X)) va V:=by
 intro f;induction f with
 |zero=>intro X s C vX vo w hw hX hB O hS h0 hf;have:=bf1 R.o hS;omega
 | succ f ih =>
  intro X s C vX vo w hw hX hB O hS h0 hf aE hx S hC hK;have aB:=l8 R.o;have hU:=E7 R.o;have hz:s<2^24:=nlt hS hU;have aF:=bf1 R.o hS;obtain⟨B,hv⟩:=nq (w.alloc (.cells #[v] 42));have F:Ext w B:=by rw[hv];exact(er _).alloc _
  have BG:Blk B w.heap.size 42 #[v]:=by rw[hv];exact oq _ _ _
  have hh:w.heap.size≠b:=by have:=hB.lt;omega
  have ai:=hw.trans F;have Hj:=zh (hX.ext F);have Hg:=zh (hB.ext F);have Hc:=zh (O.ext F);have Hq:=zh ((O.ext F).not BG (by decide));have Hp:=zh F;have Z:=zh hv;have Hl:=zh ih;have HK:=zh hK;have N:=zh S;have ax:C.length<=48:=om;have cV:=jb4 v l R P bG b HG HI X C s vX vo B ai (hX.ext F) (hB.ext F) (O.ext F) om hx S ax;have Hk:=fun h=>ce7 l f X s (J0 X) (max 1 (J0 X)) h;have Hf:=zh (jc4 l f X s (J0 X));have ad:max 1 (J0 X)<=ord l:=by
   unfold J0;split
   . omega
   . next hn=>have:=hx _ (m7 (L:=X) (k:=X.length-1) om);omega
  obtain⟨M,hY⟩:=nq (max 1 (J0 X));rw[<-hY]at Hk ad;have Ht:=zh (Hk (oc _));have Ha:=zh hY;have ak:=ad;obtain⟨ar,cX,rfl⟩:=hX.shape;clear ih hv F hB O hK S Hk hY ad;by_cases hk:X.length=0
  . have Hm:Hid ((1:Int)=(M:Int)):=zh (by rw[Ha.o];unfold J0;rw[if_pos hk];rfl);have ac:¬(0:Int)<((X.length:Nat):Int):=om;clear hk hX hC;go_in;go_wp2_with fail;rw[<-Z.o];refine cV.mono ?_;rintro e G⟨rfl,vb,he⟩;have Hd:=zh he;clear he cV;go_wp2_with fail;obtain⟨da,hm⟩:∃d:Bool,d=decide (0<X.length):=⟨_,rfl⟩;rw[<-hm];clear hm ac;go_loopw [9] (fun xv wr=>∃(k:Nat) (u:Value),M<=k/\k<=ord l/\xv=vi k/\bb5 P b B vo (C++atK l f X s (J0 X) k) u wr) (fun xv _=>ord l-(intOf xv).toNat);exact⟨M,vb,oc _,ak,by first|rfl|rw[Hm.o],by rw[Ht.o];exact Hd.o⟩;case round =>
     clear Hd;obtain⟨k,u,hG,au,rfl,j⟩:=hrel;have hr:=j.2.2.1.ext ai ap (fun g H=>(Hc.o.blk g H).1);have Br:=j.2.2.1.blk BG hh Hq.o;have Hr:=zh (Hj.o.fr Hg.o Hc.o j.2.2.1);have p:=zh j;have kG:=Br.atc 0 rfl;have kr:=kG wr (er wr);have Y:=sh hr HI.o;have cO:=p9 v l wr (Y _ (er wr)) R;clear j;by_cases U:k<ord l
     . have hD:(k:Int)<(ord l:Int):=om;have hj:k<24:=om;have hN:=bv2 R.o hS U;have hZ:=be2 R.o hS h0 U;have hc:nxS l s k<2^24:=nlt hN hU;have hQ:=K8 R.o s k;have q1:=o6 (n:=k) om;have q2:ior (s:Int) (j6 l s k:Int)=((s ||| j6 l s k:Nat):Int):=R5 om om;have q3:ior ((s ||| j6 l s k:Nat):Int) ((pw k:Nat):Int)=((nxS l s k:Nat):Int):=H9 (ox hz hQ) hj;have Ho:=zh (fun h=>dq0 (l:=l) (f:=f) (X:=X) (S:=s) (m:=J0 X) (k:=k) h);have He:=zh (fun h=>d98 (l:=l) (f:=f) (X:=X) (S:=s) (m:=J0 X) (k:=k) (by rw[<-Ha.o];exact hG) h);have Hi:=zh (fun d=>c64 l f X s (J0 X) (k+1) d);obtain⟨A,hi⟩:=nq (nxS l s k);rw[<-hi]at hN hZ hc q3 Ho He;have cS:=fun W (D:Ext wr W)=>M8 v l s k W (Y _ D) R hz hj;clear hi;go_wp2_with(go_at_call 153;refine cm cO fun G z=>?_);have hA:=fun UU=>kG _ (z.trans (c9 G UU));have E:=er G;refine wl E ?_;(repeat(go_big_quiet_step(first|(go_at_call 196;exact oa (cS _ (z.trans (c9 G _)))))));refine zd fun W E=>?_;rename World=>w2;have I:=z.trans E;clear hA cS E;cases t:A.testBit 0
       . have cI:=fun W=>T2 A 0 hc om W t;have Hb:=zh (He.o t);have hp:∀x∈X++[k],x<ord l:=fun y J=>by
          rw[oP,oE]at J
          rcases J with J|rfl
          . exact hx y J
          . exact U
         have hu:b01 (b9 (X++[k]))=true:=bz7 N.o (fun hn=>by
          have h1:M=max 1 (J0 X):=Ha.o
          have r:J0 X=d5 X (X.length-1):=by unfold J0;rw[if_neg hn]
          omega)
         have hR:∀W K,Ext w2 W->b03 W K (X++[k])->Calls Tryz.prog 243 #[.agg #[v],K,vi A,.func (.func 314) #[] #[.pointer (some (aD bG 0)),.pointer (some (aD b 0))]] W fun e V=>e=.returned (.tuple #[])/\∃va,bb5 P b W u (C++atK l f X s (J0 X) (k+1)) va V:=fun W K D hI=>by
          have q:=Hl.o (X++[k]) A (C++atK l f X s (J0 X) k) K u W (hr.trans (I.trans D)) hI (p.o.1.ext (I.trans D)) (p.o.2.1.ext (I.trans D)) hN t om zso hp hu (fun _=>by have aA:M=max 1 (J0 X):=Ha.o;simp[d5,List.getD];omega) (by
           have h1:=HK.o;have r:=Hi.o (ord l-(k+1));rw[show k+1+(ord l-(k+1))=ord l by omega,<-Hf.o,Hb.o]at r;rw[by6];rw[oh]at r|-;omega)
          rw[by6,pr,<-Hb.o]at q
          exact q
         have Hh:=zh (fun W (D:Ext w2 W)=>(Hr.o.ext (I.trans D)).ints);have hJ:(b9 X).length+[(k:Int)].length<=17592186044416:=(by rw[d9];simp;omega);have ka:=sh I kG;have Bb:=Br.ext I;have ah:(X++[k]).length<=1000:=zso;have HU:=zh (p.o.2.1.not Br (by decide));have az:=hh;clear t hp hu;have E:=er w2;go_wp2_with(go_at_call 205;refine cm (cI _) fun V hb=>?_;subst hb);first|(go_region_held3 (fun W=>W.cell? (aD w.heap.size 0)=some v) (first|exact hV|exact ka _ xr) (first|(go_at_call 170;(with_reducible refine od (Calls.sh (E3 _ _ _ (Hh.o _ xr))) ?_);rintro eC wC⟨aC,cC,rfl,hH,hXC⟩;have aw:=og (a:=w2) xr hXC;have aa:=hH.mono (show Ext w2 _ by repeat(first|(with_reducible assumption)|(with_reducible exact er _)|(with_reducible apply pB)|(with_reducible apply oQ)|(with_reducible (apply pA;assumption)))))|(go_at_call 243;have ag:=be3 hT zm ah;have ae:b03 wD (.slice aN (X.length+1) cN) (X++[k]):=Or.inr ag;have af:=hR wD _ ha ae;(with_reducible refine od af ?_);rintro eF wF⟨rfl,vF,ho⟩;have hV:=(ho.2.2.1.blk (Bb.ext ha) hh HU.o).cell (i:=0) (v:=v) rfl)|(have hq:=aa;refine q9 slI rfl _ _ rfl w2 w2 _ _ (b9 X) [(k:Int)] (Or.inr (by first|exact hq|exact hq.alloc _|exact(hq.alloc _).drew)) (Blk.ints1 (T:=3) zq2) xr hJ rfl rfl ?_;intro vD wD hM hL av;obtain⟨aN,cN,rfl,hT,ha⟩:=NxP.of hM hL)))|(fail "the region")
         all_goals
          have ab:=(p.o.ext I).trans ha ho
          go_wp2_with fail
          go_roundw
          case rel=>exact⟨k+1,vF,om,om,zg,ab⟩
          case measure=>exact zm1
       . exact zz83
     . exact zz70
  . have ac:(0:Int)<((X.length:Nat):Int):=om;have ao:X.length-1<X.length:=om;have ay:=hC hk;have Hu:Hid (d5 X (X.length-1)=M):=zh (by rw[Ha.o];unfold J0;rw[if_neg hk];omega);have Hm:Hid ((M:Int)=(M:Int)):=zh rfl;clear hk hX hC ay;go_in;go_wp2_with fail;rw[<-Z.o];refine cV.mono ?_;rintro e G⟨rfl,vb,he⟩;obtain⟨aG,c',aX,an,al,am⟩:=(Hj.o.fr Hg.o Hc.o he.2.2.1).ints.nats;have aj:=j2 (c:=c') elI szI al;simp only[Value.slice.injEq]at an;obtain⟨rfl,-,rfl⟩:=an;have ia:∀W,(Instr.indexAt 40 (.slice ar X.length cX) (vi ((X.length:Int)-1))).run Tryz.prog W=.ok (.pointer (some (aX (X.length-1)))) W:=fun W=>(by rw[show((X.length:Int)-1)=((X.length-1:Nat):Int) by omega];exact aj _ W ao);have aq:G.cell? (aX (X.length-1))=some (vi (M:Int)):=(by rw[<-Hu.o];exact am _ _ ao (er _));have Hd:=zh he;clear he cV aj am al;go_wp2_with fail;obtain⟨da,hm⟩:∃d:Bool,d=decide (0<X.length):=⟨_,rfl⟩;rw[<-hm];clear hm ac ia aq;go_loopw [9] (fun xv wr=>∃(k:Nat) (u:Value),M<=k/\k<=ord l/\xv=vi k/\bb5 P b B vo (C++atK l f X s (J0 X) k) u wr) (fun xv _=>ord l-(intOf xv).toNat);exact⟨M,vb,oc _,ak,by first|rfl|rw[Hm.o],by rw[Ht.o];exact Hd.o⟩;case round =>
     clear Hd;obtain⟨k,u,hG,au,rfl,j⟩:=hrel;have hr:=j.2.2.1.ext ai ap (fun g H=>(Hc.o.blk g H).1);have Br:=j.2.2.1.blk BG hh Hq.o;have Hr:=zh (Hj.o.fr Hg.o Hc.o j.2.2.1);have p:=zh j;have kG:=Br.atc 0 rfl;have kr:=kG wr (er wr);have Y:=sh hr HI.o;have cO:=p9 v l wr (Y _ (er wr)) R;clear j;by_cases U:k<ord l
     . have hD:(k:Int)<(ord l:Int):=om;have hj:k<24:=om;have hN:=bv2 R.o hS U;have hZ:=be2 R.o hS h0 U;have hc:nxS l s k<2^24:=nlt hN hU;have hQ:=K8 R.o s k;have q1:=o6 (n:=k) om;have q2:ior (s:Int) (j6 l s k:Int)=((s ||| j6 l s k:Nat):Int):=R5 om om;have q3:ior ((s ||| j6 l s k:Nat):Int) ((pw k:Nat):Int)=((nxS l s k:Nat):Int):=H9 (ox hz hQ) hj;have Ho:=zh (fun h=>dq0 (l:=l) (f:=f) (X:=X) (S:=s) (m:=J0 X) (k:=k) h);have He:=zh (fun h=>d98 (l:=l) (f:=f) (X:=X) (S:=s) (m:=J0 X) (k:=k) (by rw[<-Ha.o];exact hG) h);have Hi:=zh (fun d=>c64 l f X s (J0 X) (k+1) d);obtain⟨A,hi⟩:=nq (nxS l s k);rw[<-hi]at hN hZ hc q3 Ho He;have cS:=fun W (D:Ext wr W)=>M8 v l s k W (Y _ D) R hz hj;clear hi;go_wp2_with(go_at_call 153;refine cm cO fun G z=>?_);have hA:=fun UU=>kG _ (z.trans (c9 G UU));have E:=er G;refine wl E ?_;(repeat(go_big_quiet_step(first|(go_at_call 196;exact oa (cS _ (z.trans (c9 G _)))))));refine zd fun W E=>?_;rename World=>w2;have I:=z.trans E;clear hA cS E;cases t:A.testBit 0
       . have cI:=fun W=>T2 A 0 hc om W t;have Hb:=zh (He.o t);have hp:∀x∈X++[k],x<ord l:=fun y J=>by
          rw[oP,oE]at J
          rcases J with J|rfl
          . exact hx y J
          . exact U
         have hu:b01 (b9 (X++[k]))=true:=bz7 N.o (fun hn=>by
          have h1:M=max 1 (J0 X):=Ha.o
          have r:J0 X=d5 X (X.length-1):=by unfold J0;rw[if_neg hn]
          omega)
         have hR:∀W K,Ext w2 W->b03 W K (X++[k])->Calls Tryz.prog 243 #[.agg #[v],K,vi A,.func (.func 314) #[] #[.pointer (some (aD bG 0)),.pointer (some (aD b 0))]] W fun e V=>e=.returned (.tuple #[])/\∃va,bb5 P b W u (C++atK l f X s (J0 X) (k+1)) va V:=fun W K D hI=>by
          have q:=Hl.o (X++[k]) A (C++atK l f X s (J0 X) k) K u W (hr.trans (I.trans D)) hI (p.o.1.ext (I.trans D)) (p.o.2.1.ext (I.trans D)) hN t om zso hp hu (fun _=>by have aA:M=max 1 (J0 X):=Ha.o;simp[d5,List.getD];omega) (by
           have h1:=HK.o;have r:=Hi.o (ord l-(k+1));rw[show k+1+(ord l-(k+1))=ord l by omega,<-Hf.o,Hb.o]at r;rw[by6];rw[oh]at r|-;omega)
          rw[by6,pr,<-Hb.o]at q
          exact q
         have Hh:=zh (fun W (D:Ext w2 W)=>(Hr.o.ext (I.trans D)).ints);have hJ:(b9 X).length+[(k:Int)].length<=17592186044416:=(by rw[d9];simp;omega);have ka:=sh I kG;have Bb:=Br.ext I;have ah:(X++[k]).length<=1000:=zso;have HU:=zh (p.o.2.1.not Br (by decide));have az:=hh;clear t hp hu;have E:=er w2;go_wp2_with(go_at_call 205;refine cm (cI _) fun V hb=>?_;subst hb);first|(go_region_held3 (fun W=>W.cell? (aD w.heap.size 0)=some v) (first|exact hV|exact ka _ xr) (first|(go_at_call 170;(with_reducible refine od (Calls.sh (E3 _ _ _ (Hh.o _ xr))) ?_);rintro eC wC⟨aC,cC,rfl,hH,hXC⟩;have aw:=og (a:=w2) xr hXC;have aa:=hH.mono (show Ext w2 _ by repeat(first|(with_reducible assumption)|(with_reducible exact er _)|(with_reducible apply pB)|(with_reducible apply oQ)|(with_reducible (apply pA;assumption)))))|(go_at_call 243;have ag:=be3 hT zm ah;have ae:b03 wD (.slice aN (X.length+1) cN) (X++[k]):=Or.inr ag;have af:=hR wD _ ha ae;(with_reducible refine od af ?_);rintro eF wF⟨rfl,vF,ho⟩;have hV:=(ho.2.2.1.blk (Bb.ext ha) hh HU.o).cell (i:=0) (v:=v) rfl)|(have hq:=aa;refine q9 slI rfl _ _ rfl w2 w2 _ _ (b9 X) [(k:Int)] (Or.inr (by first|exact hq|exact hq.alloc _|exact(hq.alloc _).drew)) (Blk.ints1 (T:=3) zq2) xr hJ rfl rfl ?_;intro vD wD hM hL av;obtain⟨aN,cN,rfl,hT,ha⟩:=NxP.of hM hL)))|(fail "the region")
         all_goals
          have ab:=(p.o.ext I).trans ha ho
          go_wp2_with fail
          go_roundw
          case rel=>exact⟨k+1,vF,om,om,zg,ab⟩
          case measure=>exact zm1
       . exact zz83
     . exact zz70
def cz0(R P:LI):LI:=P.foldl (fun (T:LI) (x:Int)=>N5 x T) R
theorem jy6(R:LI)(a:LN):cz0 R (b9 a)=S0 R a:=by unfold cz0 S0 b9;rw[List.foldl_map]
theorem zz86{P:Prop}(h:P:=by clear e;go_wp2_with fail;refine wl E ?_;(repeat(go_big_quiet_step(first|(fail "no call"))));refine zd fun W E=>?_;go_wp2_with fail;go_roundw;exact⟨j+1,om,zg,by rw[J.o],z.trans E⟩;exact zm1):P:=h
theorem dy1(u1 u2:Value)(H P:LI)(w:World)(X:c8 w u1 H)(r:c8 w u2 P):Calls Tryz.prog 327 #[u1,u2] w fun e Z=>(∃b,e=.returned (.tuple #[b,.bool (T0 H P)])/\(T0 H P=true->Own 3 w Z b (cz0 H P)))/\Ext w Z:=by
 obtain⟨ab,c2,aP,rfl,hR,hP,F⟩:=r.op;have hw:=j2 (c:=c2) elI szI hP;have hu:H.length<=17592186044416:=by obtain⟨_,_,_,_,h',_⟩:=X;exact h'
 have O:Own 3 w (w.alloc (.cells #[] 3)) (.slice (some (aD w.heap.size 0)) 0 0) []:=l9 (TI:=3) (n:=0) om (er w) [] rfl;have L:=(er w).alloc (.cells #[] 3);have i:=X.ext L;clear hP r X;go_in;go_wp2_with(at_builtin;refine F7 slI rfl _ _ rfl w _ _ _ _ _ O i L (by simpa using hu) rfl rfl ?_;intro v1 G h z;rw[pq]at h;obtain⟨aa,c1,rfl,-⟩:=h.shape);have Hc:=zh h;have Ha:=zh z;clear O L i h z;go_loopw [6,7] (fun so s wr=>∃(k:Nat) (T:LI) (A:Option Addr) (c:Nat),k<=P.length/\s=vi k/\so=.slice A T.length c/\Own 3 w wr (.slice A T.length c) T/\T.length<=H.length/\Hid (T0 H P=T0 T (P.drop k))/\Hid (cz0 H P=cz0 T (P.drop k))/\Ext w wr) (fun _ s _=>P.length-(intOf s).toNat);exact⟨0,H,aa,c1,om,rfl,rfl,Hc.o,oc _,zh rfl,zh rfl,Ha.o⟩
 clear Hc Ha;obtain⟨k,T,A,c,V,rfl,rfl,R,hM,S,HR,m⟩:=hrel;have x:=zh (fun W (D:Ext wr W)=>R.ext D);by_cases U:k<P.length
 . obtain⟨aT,cT,ac,hf,hS,hT,he⟩:=R.ints.op;simp only[Value.slice.injEq]at hf;obtain⟨rfl,-,rfl⟩:=hf;have hx:=j2 (c:=c) elI szI hT;have K:=fun W (D:Ext wr W)=>F k W U (m.trans D);obtain⟨Y,y⟩:=nq (nth P k);have d:Hid (P.drop k=Y :: P.drop (k+1)):=zh (by
    rw[y,qf U];simp[nth,List.getD,U])
   have hA:=R.ints.cap;rw[<-y]at K;have Hb:=zh m;have HP:=zh F;clear hT R y F;have E:=er wr;go_wp2_with fail;go_loopw [8,9] (fun sa p q=>∃j:Nat,j<=T.length/\p=vi j/\sa=vi (b46 T Y j)/\Ext wr q) (fun _ p _=>T.length-(intOf p).toNat);exact⟨0,om,rfl,rfl,E⟩;case round =>
    clear E;rename World=>q;obtain⟨j,hj,rfl,rfl,E⟩:=hrel;by_cases hc:j<T.length
    . have hy:=fun I=>he j _ hc (E.trans (c9 q I));have hH:=fun I=>K _ (E.trans (c9 q I));have z:=E;clear E;have E:=er q;by_cases e:nth T j=Y
      . have J:=zh (d44 e);have hq:(nth T j == Y)=true:=(by rw[e];simp);exact zz86
      . have J:=zh (di5 e);have hq:(nth T j == Y)=false:=(by rw[beq_eq_false_iff_ne];exact e);exact zz86
    . have hp:j=T.length:=om;subst hp;clear hc hj;by_cases g:b46 T Y T.length<0
      . have N:Hid (T0 H P=false):=zh (by rw[S.o,d.o,de0 (ll3 g)]);go_wp2_with fail;have hi:=Hb.o.trans E;exact br (.tuple #[.slice (some (aD q.heap.size 0)) 0 0,.bool false]) ⟨⟨_,by rw[N.o],fun f=>by rw[N.o]at f;cases f⟩,hi.alloc _⟩
      . obtain⟨a,ea,ha,hd,M⟩:=l83 g;have N:Hid (T0 H P=T0 (T.take a++T.drop (a+1)) (P.drop (k+1))):=zh (by rw[S.o,d.o,d06 M,hd]);have Hr:Hid (cz0 H P=cz0 (T.take a++T.drop (a+1)) (P.drop (k+1))):=zh (by rw[HR.o,d.o,<-hd];rfl);have Hd:Hid ((T.take a++T.drop (a+1)).length<=H.length):=zh (by rw[oh,ol,pc];omega);have hn:(T.take a).length+(T.drop (a+1)).length<=17592186044416:=(by rw[ol,pc];omega);rw[ea];have hQ:¬((a:Int)<0):=om;have hr:=fun W=>U6 (P:=Tryz.prog) elI szI A T.length c (a:Int) om om W;have hs:=fun W=>Y0 (P:=Tryz.prog) elI szI A T.length c (a:Int) om om W;have hl:=fun W=>T6 (P:=Tryz.prog) elI szI A T.length c ((a:Int)+1) om om W;have ht:=fun W=>S6 (P:=Tryz.prog) elI szI A T.length c ((a:Int)+1) om om W;rw[show((a:Int)).toNat=a by omega]at hr hs;rw[show((a:Int)+1).toNat=a+1 by omega]at hl ht;have hz:IntKind.i64.wrap ((a:Int)+1)=(a:Int)+1:=oD _ om;have HA:=zh (fun W (D:Ext q W)=>(x.o W (E.trans D)).ints.take (k:=a) om);have HB:=zh (fun W (D:Ext q W)=>(x.o W (E.trans D)).ints.drop (k:=a+1) om);have hb:=Hb.o.trans E;clear g ea hd M he K hx hw;have z:=E;clear E;have E:=er q;go_wp2_with fail;first|(go_region_held3 (fun W=>Ext q W) (exact xq) (first|(have hG:=C;refine q9 slI rfl _ _ rfl q q _ _ (T.take a) (T.drop (a+1)) (Or.inr (by first|exact C|exact C.alloc _|exact(C.alloc _).drew)) (HB.o _ xq) xq hn rfl rfl ?_;intro vD wD hg hD hJ)|(refine Q6 slI rfl _ _ rfl _ _ (T.take a) rfl rfl zq0 (HA.o _ xq) q (by first|exact oc _|omega|(simp;omega)) xq ?_;intro aC cC wC C hL hC;have hK:=og (a:=q) xq hC)))|(fail "the region")
        all_goals
         obtain⟨aN,cN,rfl,ho,hN⟩:=MiP.of hg hD
         go_wp2_with fail
         go_roundw
         case rel=>exact⟨k+1,_,aN,cN,om,zg,rfl,ho.mono hb,Hd.o,N,Hr,hb.trans hN⟩
         case measure=>exact zm1
 have B:k=P.length:=om;have N:Hid (T0 H P=true):=zh (by rw[S.o,B,qi];rfl);go_wp2_with fail;exact br (.tuple #[.slice A T.length c,.bool true]) ⟨⟨_,by rw[N.o],fun _=>by rw[HR.o,B,qi];exact x.o wr (er _)⟩,m⟩
end Go.Zz
