/- Sorted sequences: SortSequence of both. -/
import Derived.Test.YtjhoafjeopcheaaGreatLy
import Derived.Test.YtjhoafjeopcheaaGreatGr31
set_option linter.all false
set_option maxHeartbeats 4000000
set_option maxRecDepth 8000
namespace Go.Zz
open Go.RowKit Go.Proofs
variable(L:LI)(x:Int)(v u:Value)(l X:LI){C D R:LI}{W G P w:World}{A a B:LN}{c s:Array Value}{T:TypeId}{o:Value}{b g i k n:Nat}
theorem j13(L:LI)(x:Int):∀k,k<=L.length->(∀j,pkI L x k<=j->j<k->x<nth L j)/\(0<pkI L x k->nth L (pkI L x k-1)<=x)
 |0,_=>⟨fun j _ h=>om,fun h=>by simp[pkI]at h⟩
 | k+1,hk=>by
  obtain⟨o,r⟩:=j13 L x k om
  by_cases h:x<nth L k
  . rw[jx9 h]
    refine⟨fun j a b=>?_,r⟩
    by_cases e:j=k
    . subst e;exact h
    . exact o j a om
  . have e:pkI L x (k+1)=k+1:=by
     show(if x<nth L k then pkI L x k else k+1)=k+1;rw[if_neg h]
    rw[e]
    exact⟨fun j a b=>om,fun _=>by simp;omega⟩
theorem jt9:(bc0 L x).Perm (x :: L):=by
 unfold bc0;rw[pr];refine(List.perm_append_comm_assoc _ _ _).trans ?_;rw[qJ];exact List.Perm.refl _
theorem j90(h:L.Pairwise (·<=·)):(bc0 L x).Pairwise (·<=·):=by
 obtain⟨o,r⟩:=j13 L x L.length (oc _);have P:=j12 L x L.length;unfold bc0;obtain⟨p,d⟩:=nq (pkI L x L.length);rw[<-d]at o r P|-;have hcut:(L.take p++L.drop p).Pairwise (·<=·):=by rw[qJ];exact h
 rw[qM]at hcut;have t:∀a∈L.take p,a<=x:=by
  intro a H;obtain⟨i,J,rfl⟩:=qV.1 H;rw[ol]at J;have T:=r om;have c:nth L (p-1)=L[p-1]'om:=by simp[nth,List.getD];rw[List.getElem?_eq_getElem om];rfl
  rw[c]at T;rw[List.getElem_take];by_cases e:i=p-1;subst e;exact T;exact Int.le_trans (qg.1 h i (p-1) om om om) T
 have D:∀b∈L.drop p,x<=b:=by
  intro b C;obtain⟨i,J,rfl⟩:=qV.1 C;rw[pc]at J;rw[List.getElem_drop];have T:=o (p+i) om om;have c:nth L (p+i)=L[p+i]'om:=by simp[nth,List.getD];rw[List.getElem?_eq_getElem om];rfl
  rw[c]at T;omega
 rw[pr,qM];refine⟨hcut.1,?_,?_⟩;rw[qL,qj];exact⟨D,hcut.2.1⟩;intro a H b C;rw[qL,pM]at C;rcases C with rfl|C
 exact t a H;exact hcut.2.2 a H b C
theorem ju2:∀c:LI,c.Pairwise (·<=·)->(X.foldl bc0 c).Pairwise (·<=·)/\(X.foldl bc0 c).Perm (c++X):=by
 induction X with
 |nil=>intro c h;exact⟨h,zm⟩
 |cons x X ih =>
  intro c h;obtain⟨a,b⟩:=ih (bc0 c x) (j90 c x h);refine⟨a,b.trans ?_⟩;exact((jt9 c x).append_right X).trans (List.perm_middle.symm)
theorem ct7:∀{A B:LI},A.Perm B->A.Pairwise (·<=·)->B.Pairwise (·<=·)->A=B
 |[],B,h,_,_=>by rw[List.nil_perm.1 h]
 |a :: A,[],h,_,_=>by have:=h.length_eq;simp at this
 | a :: A,b :: B,h,hA,hB=>by
  rw[qj]at hA hB
  have e:a=b:=by
   have o:a∈b :: B:=h.subset zm;have r:b∈a :: A:=h.symm.subset zm;rw[pM]at o r;rcases o with o|o
   . exact o
   . rcases r with r|r
     . exact r.symm
     . have:=hB.1 a o;have:=hA.1 b r;omega
  subst e
  rw[ct7 ((List.perm_cons a).1 h) hA.2 hB.2]
theorem jl8:(X.mergeSort fun x y=>decide (x<=y))=b87 X:=by
 obtain⟨a,b⟩:=ju2 X [] List.Pairwise.nil;have B:(b87 X).Perm X:=by have q:=b;rw[pq]at q;exact q
 refine ct7 ((List.mergeSort_perm X _).trans B.symm) ?_ a;have:=List.pairwise_mergeSort (le:=fun x y:Int=>decide (x<=y)) (fun a b c o r=>by simp at o r|-;omega) (fun a b=>by simp;omega) X;exact this.imp (fun h=>by simpa using h)
theorem jz9{l X:LI}(h:12<X.length):q8 l X=false:=by
 unfold q8;rw[decide_eq_false (by omega:¬X.length<=12)];simp
theorem bt4(w:World)(h:c8 w v l)(U:c8 w u X)(x:X.length<=1000000):Calls Tryz.prog 64 #[.agg #[v],u] w fun e P=>∃V,e=.returned (.tuple #[V,.bool (ssB l X)])/\c8 P V (ssV l X)/\Ext w P:=by
 obtain⟨B,Z,F,C,H,E,s⟩:=m04 42 h;clear h;have A:=fun W h=>E3 u X W h;have g:∀W,Ext B W->c8 W u X:=fun W D=>U.ext (F.trans D);have N:=zh (fun h=>lh0 (l:=l) (X:=X) h);have y:=zh (fun h=>d80 (l:=l) (X:=X) h);have M:=zh (jl8 X);clear U;go_in;go_wp2_with(first|(go_at_call 170;rw[<-Z.o];refine(A _ (g _ E)).mono ?_;rintro e G⟨i,rfl,T,z⟩;have S:=dk5 T z om;rw[M.o]at S)|(go_at_call 171;refine S.mono ?_;rintro e m⟨rfl,O,I⟩;have k:=C _ I;have c:=c24 _ _ l (b87 X) m (H _ I) O.ints;obtain⟨b,d⟩:=nq (q8 l (b87 X));rw[<-d]at c N y;clear d;cases b)|(go_at_call 172;refine cm c fun w3 J=>?_))
 have f:=zh (N.o trivial);exact br (.tuple #[.slice (some (aD w3.heap.size 0)) 0 0,.bool false]) ⟨_,by rw[f.o.1],by rw[f.o.2];exact(l9 (TI:=3) (n:=0) om (er w3) [] rfl).ints,(F.trans (I.trans J)).alloc _⟩;have f:=zh (y.o trivial);exact br (.tuple #[i,.bool true]) ⟨_,by rw[f.o.1],by rw[f.o.2];exact(O.ext J).ints,F.trans (I.trans J)⟩
theorem bp6(w:World)(h:c8 w v l)(U:c8 w u X):Calls Tryz.prog 45 #[.agg #[v],u] w fun e P=>∃V,e=.returned (.tuple #[V,.bool (ssB l X)])/\c8 P V (ssV l X)/\Ext w P:=by
 obtain⟨B,Z,F,C,H,E,s⟩:=m04 42 h;clear h;have g:∀W,Ext B W->c8 W u X:=fun W D=>U.ext (F.trans D);have N:=zh (fun h=>lh0 (l:=l) (X:=X) h);have y:=zh (fun h=>d80 (l:=l) (X:=X) h);obtain⟨Q,c,R,rfl,x,r,L⟩:=U.op;clear r L U;by_cases Y:12<X.length
 . have T:(12:Int)<X.length:=om;have z:=zh (N.o (jz9 (by have:=cw9 X X.length (oc _);rw[oz]at this;omega)));go_in;go_wp2_with fail;rw[<-Z.o];exact br (.tuple #[.slice (some (aD (w.heap.size+1) 0)) 0 0,.bool false]) ⟨_,by rw[z.o.1],by rw[z.o.2,s.o];exact(l9 (TI:=3) (n:=0) om (er B) [] rfl).ints,F.alloc _⟩
 have T:¬(12:Int)<X.length:=om;have A:=fun W h=>j92 (.slice Q X.length c) X W h om;go_in;go_wp2_with(first|(go_at_call 114;rw[<-Z.o];refine(A _ (g _ E)).mono ?_;rintro e m⟨i,rfl,O,I⟩;have k:=C _ I;have S:=bz1 _ _ l (b87 X) m (H _ I) O.ints;obtain⟨b,d⟩:=nq (q8 l (b87 X));rw[<-d]at S N y;clear d;cases b)|(go_at_call 115;refine cm S fun w3 G=>?_));have z:=zh (N.o trivial);exact br (.tuple #[.slice (some (aD w3.heap.size 0)) 0 0,.bool false]) ⟨_,by rw[z.o.1],by rw[z.o.2];exact(l9 (TI:=3) (n:=0) om (er w3) [] rfl).ints,(F.trans (I.trans G)).alloc _⟩;have z:=zh (y.o trivial);exact br (.tuple #[i,.bool true]) ⟨_,by rw[z.o.1],by rw[z.o.2];exact(O.ext G).ints,F.trans (I.trans G)⟩
section
variable {α:Type} [Inhabited α] {enc:α->Value}
theorem dm4{f:Nat}{o:Array Obj}(d:Array α):w.grownBy (sortWorld enc w g f n d o) (some g):=by
 unfold sortWorld;refine⟨rfl,rfl,rfl,zm,fun k V h=>?_⟩;rw[Sort.heap_grow_old _ _ (by simpa using V)];have:g≠k:=fun e=>h (by rw[e]);simp[Sort.putRow,Sort.mapBlock,Sort.ahead,Array.getElem?_modify,this]
theorem jl6{o:Array Obj}{e:TypeId}{fr:Nat × Nat}(d:Array α)(C:w.heap[g]?=some (.cells c e fr)):(sortWorld enc w g 0 n d o).heap[g]?=some (.cells (Sort.putCells enc 0 d c) e fr):=by
 have H:g<w.heap.size:=(Array.getElem?_eq_some_iff.1 C).1;unfold sortWorld;rw[Sort.heap_grow_old _ _ (by simpa using H)];simp[Sort.putRow,Sort.mapBlock,Sort.ahead,Array.getElem?_modify,C,Sort.onCells]
theorem l09(c:Array Value)(d:Array α)(h:d.size<=c.size):(Sort.putCells enc 0 d c).toList.take d.size=d.toList.map enc:=by
 apply List.ext_getElem?;intro j;by_cases H:j<d.size;rw[List.getElem?_take_of_lt H,Array.getElem?_toList];simp[Sort.putCells,H,show j<c.size by omega];rw[List.getElem?_take_eq_none om,List.getElem?_eq_none zso]
end
def SEl(w:World):Type:={ p:Value × LN // R6 w p.1 p.2 }
def SEl.hd{w:World}(x:SEl w):Value:=x.1.1
def SEl.ct{w:World}(x:SEl w):LN:=x.1.2
def SEl.cf{w:World}(x y:SEl w):Int:=Q2 x.ct y.ct
theorem SEl.rb(x:SEl w):R6 w x.hd x.ct:=x.2
theorem j38{w:World}:∀(L:List Value) (A:List (LN)),T8 w L A->∃D:List (SEl w),D.map SEl.hd=L/\D.map SEl.ct=A
 |[],[],_=>⟨[],rfl,rfl⟩
 |[],a :: A,h=>by have:=h.1;simp at this
 |u :: L,[],h=>by have:=h.1;simp at this
 |u :: L,a :: A,h=>by
  have H:=h.2 0 zm
  have l:=h.1
  obtain⟨D,o,r⟩:=j38 L A ⟨by simpa using l,fun i J=>by have:=h.2 (i+1) zso;simpa using this⟩
  exact⟨(⟨(u,a),by simpa using H⟩:SEl w) :: D,congrArg (u :: ·) o,congrArg (a :: ·) r⟩
theorem ln6(w:World):Sort.SWO (ltOf (SEl.cf (w:=w))) where
 irrefl x:=by unfold ltOf SEl.cf;rw[jq7];rfl
 trans x y z h1 h2:=by
  unfold ltOf SEl.cf at *;rw[decide_eq_true_iff]at *;have T:=bp9 (a:=x.ct) (b:=y.ct) (c:=z.ct) om om;by_cases e:Q2 x.ct z.ct=0
  . have E:=jd4 e;rw[<-E,bf0]at h2;omega
  . omega
 ntrans x y z h1 h2:=by
  unfold ltOf SEl.cf at *;rw[decide_eq_false_iff_not]at *;rw[bf0]at h1 h2|-;have T:=bp9 (a:=z.ct) (b:=y.ct) (c:=x.ct) om om;omega
theorem l07(P w:World)(v:Value)(A:List (LN))(O:I1 P w v A)(hA:0<A.length):Calls Tryz.prog 316 #[v,.func (.func 317) #[] #[]] w fun e W=>e=.returned (.tuple #[])/\I1 P W v (isA A)/\w.grownBy W v.ownBlock:=by
 obtain⟨L,l,R⟩:=O.rows;have hn:=R.1;have V:=l.2.1;rcases V.2 with⟨-,hl⟩|⟨g,cap,C,rfl,H,a,N,M,F,t⟩;omega;obtain⟨D,E,B⟩:=j38 L A R;have T:D.length=L.length:=(by rw[<-E,oG]);have hc:D.length=A.length:=(by rw[<-B,oG]);haveI:Inhabited (SEl w):=⟨D[0]'om⟩;have Q:Sort.Holds SEl.hd w g 0 D.toArray:=by
  intro j h;have ha:j<D.length:=(by simpa using h);refine⟨?_,by simp[World.frozen?,a]⟩;have o:(C.toList.take (L.length*1))[j]?=L[j]?:=(by rw[t]);rw[List.getElem?_take_of_lt om]at o;simp only[World.cell?,a,oM];simp only[Option.isSome_none,pb,if_false];rw[<-Array.getElem?_toList,o,<-E];simp[ha]
 have b:∀(m:Nat) (s:Array Obj) (k:Array (SEl w)),w.grownBy (sortWorld SEl.hd w g 0 m k s) (Value.ownBlock (.slice (some (aD g 0)) L.length cap)):=fun m s k=>dm4 k;have r:∀(m:Nat) (s:Array Obj) (k:Array (SEl w)) (x:SEl w),R6 (sortWorld SEl.hd w g 0 m k s) x.hd x.ct:=fun m s k x=>x.rb.grown l (by decide) (b m s k);have hb:CmpLays1 Tryz.prog 317 #[] SEl.hd (SEl.cf (w:=w)) g 0 D.toArray.size w:=by
  intro m s k S x y;rw[Array.append_empty];refine(j83 x.hd y.hd x.ct y.ct _ (r m s k x).ints (r m s k y).ints).mono ?_;rintro e W⟨rfl,rfl⟩;exact⟨rfl,0,#[],by rw[Sort.grow_empty];rfl⟩
 have eg:∀G w,(callFunc 317 G).run Tryz.prog w=.ok (.enter 317 G) w:=enters_of Tryz.func317 (by kernel_rfl) rfl;have c:=Any.slices_SortFunc Tryz.laysSortF SEl.hd (fun x=>x.rb.one) SEl.cf (ln6 w) 317 #[] g 0 cap D.toArray w eg hb Q (Array.getElem?_eq_some_iff.1 a).1 (by have:=l.2.2;simp;omega);rw[show D.toArray.size=L.length by simpa using T]at c;change Calls Tryz.prog 316 _ _ _ at c;refine c.mono ?_;rintro e W⟨rfl,d,n,s,⟨K,-,p⟩,S,rfl⟩;have f:d.size=L.length:=(by rw[K];simpa using T);have hm:d.toList.Perm D:=by
  have Y:(d.extract 0 L.length).toList=d.toList:=(by rw[<-f,Array.extract_size]);have X:(D.toArray.extract 0 L.length).toList=D:=(by rw[<-T,<-List.size_toArray,Array.extract_size]);rw[Y,X]at p;exact p
 have hp:(d.toList.map SEl.ct).Perm A:=(by rw[<-B];exact hm.map _);have Z:(d.toList.map SEl.ct).Pairwise leA:=by
  rw[qg];intro i j J h I;rw[oG,pS]at J h;have:=S i j (oX _) I om;unfold ltOf SEl.cf at this;rw[decide_eq_false_iff_not,getElem!_pos d i J,getElem!_pos d j h]at this;rw[List.getElem_map,List.getElem_map,Array.getElem_toList,Array.getElem_toList];unfold leA;rw[bf0];omega
 have q:=ja9 hp Z;refine⟨rfl,dc5 (L:=d.toList.map SEl.hd) ⟨?_,?_,by simpa[f]using l.2.2⟩ ?_,b n s d⟩;intro u U;obtain⟨x,-,rfl⟩:=pp.1 U;exact x.rb.one;have z:(d.toList.map (SEl.hd (w:=w))).length=L.length:=(by simpa using f);rw[z];refine⟨by rw[z];omega,Or.inr ⟨g,cap,_,rfl,H,jl6 d a,N,M,by simp[Sort.putCells,F],?_⟩⟩;rw[Nat.mul_one,<-f];exact l09 C d om;rw[<-q];refine⟨zm,fun i J=>?_⟩;rw[oG,pS]at J;have:=r n s d d[i];simpa[List.getD,J]using this
theorem jj2(w:World)(h:c8 w v l)(n:atB l=false):Calls Tryz.prog 262 #[.agg #[v]] w fun e P=>∃Q,e=.returned (.tuple #[.slice Q 0 0,.bool false])/\Ext w P:=by
 obtain⟨B,Z,F,C,H,E,s⟩:=m04 42 h;clear h;have c:=fun W (D:Ext B W)=>o9 v l W (H W D);have z:=(E.alloc (.cells #[] 40)).alloc (.cells #[.slice (some (aD B.heap.size 0)) 0 0] 92);have b:=C _ z;have k:((B.alloc (.cells #[] 40)).alloc (.cells #[.slice (some (aD B.heap.size 0)) 0 0] 92)).cell? (aD ((B.alloc (.cells #[] 40)).heap.size) 0)=some (.slice (some (aD B.heap.size 0)) 0 0):=(oq _ _ _).cell (i:=0) rfl;have S:(B.alloc (.cells #[] 40)).heap.size=B.heap.size+1:=zm;rw[S]at k;clear S;obtain⟨wc,p⟩:=nq ((B.alloc (.cells #[] 40)).alloc (.cells #[.slice (some (aD B.heap.size 0)) 0 0] 92));rw[<-p]at z b k;have K:=zh p;clear p;have O:=fun W (D:Ext wc W)=>D.cell k;cases Y:d7 l
 . rw[Y]at c;go_in;go_wp2_with fail;rw[<-Z.o];rw[s.o];rw[<-K.o];go_wp2_with(go_at_call 92;refine cm (c _ z) fun G I=>?_;have L:=C _ (z.trans I);have d:=O _ I);exact zz64
 rw[Y]at c;have R:=zh Y;have m:¬(ord l<=7):=by
  intro m;unfold atB at n;rw[Y,decide_eq_true m]at n;cases n
 have x:(7:Int)<(ord l:Int):=om;exact zz38
theorem cq9(w:World)(h:c8 w v l)(n:atB l=true):Calls Tryz.prog 262 #[.agg #[v]] w fun e Q=>∃S,e=.returned (.tuple #[S,.bool true])/\I1 w Q S (atS l)/\Ext w Q:=by
 obtain⟨B,Z,F,C,H,E,Hz⟩:=m04 42 h;clear h;obtain⟨Y,j⟩:d7 l=true/\ord l<=7:=by unfold atB at n;simpa using n
 have R:=zh Y;have L:=fun W (D:Ext B W)=>o9 _ l W (H W D);rw[Y]at L;have cO:=fun W (D:Ext B W)=>p9 _ l W (H W D) R;have hI:¬(7:Int)<(ord l:Int):=om;have He:=zh (ce8 Y j);have Hs:Hid (0<(atL l).length):=zh (by rw[<-br5];exact(dx2 (cw8 Y j)).one);clear Y n;have U:I1 B (B.alloc (.cells #[] 40)) (.slice (some (aD B.heap.size 0)) 0 0) []:=ci9 E;have z:=(E.alloc (.cells #[] 40)).alloc (.cells #[.slice (some (aD B.heap.size 0)) 0 0] 92);have ha:=C _ z;have q:(B.alloc (.cells #[] 40)).heap.size=B.heap.size+1:=zm;have b:Blk ((B.alloc (.cells #[] 40)).alloc (.cells #[.slice (some (aD B.heap.size 0)) 0 0] 92)) (B.heap.size+1) 92 #[.slice (some (aD B.heap.size 0)) 0 0]:=by rw[<-q];exact oq _ _ _
 have T:=U.ext ((er _).alloc (.cells #[.slice (some (aD B.heap.size 0)) 0 0] 92));obtain⟨wc,c⟩:=nq ((B.alloc (.cells #[] 40)).alloc (.cells #[.slice (some (aD B.heap.size 0)) 0 0] 92));rw[<-c]at z ha b T;have Hc:=zh c;clear c U q;have hm:∀(f:Fn) (first cap:Array Value) (w:World),(Instr.makeFunc f first cap).run Tryz.prog w=.ok (.func f first cap) w:=fun _ _ _ _=>rfl;have x:=le8 v l R j B w.heap.size (B.heap.size+1) C (zh (fun W D=>H W D)) om (ord l+1) [] 0 [];go_in;go_wp2_with fail;rw[<-Z.o];rw[Hz.o];rw[<-Hc.o];go_wp2_with(first|(go_at_call 92;refine cm (L _ z) fun G I=>?_;have r:=z.trans I;have hj:=C _ r)|(go_at_call 153;refine cm (cO _ r) fun w3 K=>?_;have y:=r.trans K;have hl:=C _ y));have d:=y.trans ((er w3).alloc (.cells #[] 3));have N:=(I.trans K).trans ((er w3).alloc (.cells #[] 3));have ho:=b.lt;refine od (x _ _ _ d (Or.inl ⟨rfl,_,_,rfl⟩) (b.ext N) (T.ext N) (Nat.pow_pos om) zm om zm zm (by rfl) (fun hh=>absurd rfl hh) (by have:=He.o;unfold atL at this;simpa[J0]using this)) ?_;rintro e s⟨rfl,O,P⟩;have X:=P.1;have p:I1 B s O (atL l):=by have:=P.2.1;unfold atL;simpa[J0]using this
 have hc:Ext B s:=P.2.2.1.ext d om (fun g H=>by have:=(T.blk g H).1;omega);have hi:=p.not X (by decide);obtain⟨A,J⟩:=nq (atL l);have HA:=zh J;have M:0<A.length:=by rw[J];exact Hs.o
 rw[<-J]at p;have cS:=l07 B s O A p M;have k5:=X.cell (i:=0) (v:=O) rfl;clear x J M P;go_wp2_with(go_at_call 316;refine cS.mono ?_;rintro e w6⟨rfl,hf,m⟩;have k6:=(X.grown m (fun k V e=>hi (by rw[V,e]))).cell (i:=0) (v:=O) rfl);have he:=hc.grown m (fun k V=>(p.blk k V).1);exact br (.tuple #[O,.bool true]) ⟨_,rfl,by unfold atS;rw[<-HA.o];exact hf.mono F,F.trans he⟩
theorem dh5(w:World)(b i:Nat)(v:Value):w.grownBy (w.setCell (aD b i) v) (some b) :=
 ⟨rfl,rfl,rfl,zm,fun k V h=>pQ _ _ _ _ (fun e=>h (by rw[e]))⟩
def W5(w:World)(g:Nat)(C:LI):Prop:=Blk w g 3 (C.map (Value.int .i64)).toArray
theorem W5.cell(h:W5 w g C)(J:i<C.length):w.cell? (aD g i)=some (vi (nth C i)):=Blk.cell (i:=i) h (by simp[nth,List.getD,J])
theorem W5.fr(h:W5 w g C)(i:Nat):w.frozen? (aD g i)=false:=by
 have H:w.heap[g]?=some (.cells (C.map (Value.int .i64)).toArray 3 (0,0)):=h;simp[World.frozen?,H]
theorem W5.set(h:W5 w g C)(i:Nat)(x:Int):W5 (w.setCell (aD g i) (vi x)) g (C.set i x):=by
 have:=Blk.set h i (vi x);unfold W5;have e:((C.set i x).map (Value.int .i64)).toArray=(C.map (Value.int .i64)).toArray.setIfInBounds i (vi x):=by
  rw[List.map_set];simp
 rw[e];exact this
theorem W5.ext{e:World}(h:W5 w g C)(E:Ext w e):W5 e g C:=Blk.ext h E
theorem ld4(C:LI)(k:Int)(a:LN){j:Nat}(f:j<a.length):tkB C k (a.take (j+1))=(tkB C k (a.take j)&&decide (0<=nth (tkS C k (a.take (j+1))) (d5 a j))):=by
 unfold tkB;rw[ol,ol,show min (j+1) a.length=j+1 by omega,show min j a.length=j by omega,oW,List.all_append];congr 1
 . rw[oA,oC,oC];have e:∀i,i<j->(a.take (j+1)).take (i+1)=(a.take j).take (i+1)/\d5 (a.take (j+1)) i=d5 (a.take j) i:=fun i J=>by
    refine⟨by rw[qR,qR];congr 1;omega,?_⟩
    simp[d5,List.getD,List.getElem?_take_of_lt (show i<j+1 by omega),List.getElem?_take_of_lt J]
   constructor
   intro h i J;have H:=ou.1 J;have:=h i J;rw[(e i H).1,(e i H).2]at this;exact this
   intro h i J;have H:=ou.1 J;have:=h i J;rw[(e i H).1,(e i H).2];exact this
 rw[List.all_cons,List.all_nil,Bool.and_true];have:d5 (a.take (j+1)) j=d5 a j:=(by simp[d5,List.getD,List.getElem?_take_of_lt (show j<j+1 by omega)]);rw[this,qR,Nat.min_self]
theorem ld2(a:LN)(p:LI)(k:Int)(L B n:Nat)(w:World)(I:∀W,w.grownBy W (some L)->c8 W u (b9 a))(V:k=1\/k = -1)(ha:∀x∈a,x<n)(hM:a.length<=50)(N:p.length=n)(hC:∀y,-100<=nth p y/\nth p y<=100)
 (q:W5 w L p) (J:Blk w B 40 #[.slice (some (aD L 0)) n n]) (he:L≠B) :
 Calls Tryz.prog 264 #[u,vi k,.pointer (some (aD B 0))] w fun e Y=>e=.returned (.bool (tkB p k a))/\W5 Y L (tkS p k a)/\w.grownBy Y (some L):=by
 obtain⟨ao,c,ar,rfl,hr,hz⟩:=(I w (bq4 w _)).nats;have hU:=j2 (c:=c) elI szI hr;have hE:Hid (∀W,w.grownBy W (some L)->∀i,i<a.length->W.cell? (ar i)=some (vi (d5 a i))):=zh (fun W D i hi=>by
  obtain⟨ab,c',aa,O,hA,ht⟩:=(I W D).nats
  simp only[Value.slice.injEq]at O
  obtain⟨rfl,-,rfl⟩:=O
  have Z:=ht i W hi (er _)
  have e:ar i=aa i:=by
   have p1:=hU i W hi;have p2:=j2 (c:=c) elI szI hA i W hi;rw[p1]at p2;simpa using p2
  rw[e];exact Z)
 have hH:=bd6 L n n;have HB:=zh J;have Hn:=zh N;have Hd:Hid (∀j x,x<n->j<=a.length -> -200<=nth (tkS p k (a.take j)) x/\nth (tkS p k (a.take j)) x<=200):=zh (fun j x K hj=>by
  rw[bl6 p k (a.take j) (fun y hy=>by rw[N];exact ha y (pJ hy))]
  have Z:=hC x
  have r:(a.take j).count x<=50:=nle qu (by rw[ol];omega)
  rcases V with rfl|rfl<;>omega)
 have Hk:=zh V;have hT : -1<=k/\k<=1:=by rcases V with rfl|rfl<;>omega
 clear hr hz I N hC V J;go_in;go_wp2_with fail;go_loopw [6,11] (fun bv T wr=>∃j:Nat,j<=a.length/\T=vi j/\bv=.bool (tkB p k (a.take j))/\W5 wr L (tkS p k (a.take j))/\w.grownBy wr (some L)) (fun _ T _=>a.length-(RowKit.intOf T).toNat);exact⟨0,om,rfl,rfl,q,bq4 w _⟩
 clear q;obtain⟨j,hj,rfl,rfl,R,G⟩:=hrel;by_cases U:j<a.length
 . have ho:(j:Int)<(a.length:Int):=om;have hu:=hE.o wr G j U;have t:=(HB.o.grown G (fun g H e=>he (by cases H;exact e))).cell (i:=0) (v:=.slice (some (aD L 0)) n n) rfl;have K:d5 a j<n:=ha _ (m7 U);have E:(tkS p k (a.take j)).length=n:=(by rw[bs9];exact Hn.o);have M:=R.cell (i:=d5 a j) om;have d:=Hd.o j _ K hj;have s:Hid (tkS p k (a.take (j+1))=(tkS p k (a.take j)).set (d5 a j) (nth (tkS p k (a.take j)) (d5 a j)-k)):=zh (by
    have e:a.take (j+1)=a.take j++[d5 a j]:=(by rw[pa U];simp[d5,List.getD,U]);rw[e,ld6])
   obtain⟨x,hc⟩:=nq (d5 a j);have m:=zh (ld4 p k a U);rw[<-hc]at hu K M d s m;obtain⟨DD,hD⟩:=nq (tkS p k (a.take j));rw[<-hD]at R E M d s;obtain⟨b,C⟩:=nq (tkB p k (a.take j));rw[<-C]at m|-;obtain⟨y,hy⟩:=nq (nth DD x);rw[<-hy]at M d s;clear hc hD C hy;have HR:=zh R;have hq:=R.fr x;have HG:=zh G;have Ha:=zh E;have hN:IntKind.i64.wrap (y-k)=y-k:=oD _ om;have f:Hid (tkB p k (a.take (j+1))=(b&&decide (0<=y-k))):=zh (by rw[m.o,s.o,cy5 om,if_pos rfl]);have hX:∀v,(wr.setCell (aD L x) v).drew.cell? (aD B 0)=some (.slice (some (aD L 0)) n n):=fun v=>by
    show(wr.setCell (aD L x) v).cell? (aD B 0)=_
    rw[World.cell?_setCell_other _ _ _ _ (by intro e;cases e;exact he rfl)];exact t
   have hJ:(wr.setCell (aD L x) (vi (y-k))).drew.cell? (aD L x)=some (vi (y-k)):=World.cell?_setCell_same _ _ _ M;have hh:W5 (wr.setCell (aD L x) (vi (y-k))).drew L (tkS p k (a.take (j+1))):=(by rw[s.o];exact(HR.o.set x (y-k)).ext ((er _).drew));have hm:w.grownBy (wr.setCell (aD L x) (vi (y-k))).drew (some L):=ch1 (c11 HG.o (Nw.refl _ _) (dh5 wr L x _)) ((er _).drew);have A:=zh hh;have F:=zh hm;have hO:wr.drew.cell? (aD B 0)=some (.slice (some (aD L 0)) n n):=t;have hV:wr.drew.cell? (aD L x)=some (vi y):=M;have hP:wr.drew.frozen? (aD L x)=false:=hq;clear R G E hh hm;cases b
   all_goals
    go_wp2_with fail
    refine wp_region_held_drew (S:=(fun _=>True)) (by kernel_rfl) (by trivial) (fun l=>?_)
    refine hxn 1 ?_
    refine hxn 3 ?_
    refine hxn 6 ?_
    refine hxr 0 2 (fun z X=>?_) (fun z X=>?_)
    . skip
      go_simp
      refine hxo X (by trivial) (fun l=>?_)
      clear X z
      refine hxt 2 (h:=fun z X=>?_)
      go_simp
      refine hxo X (by trivial) (fun l=>?_)
      clear X z
      refine hxn 4 ?_
      refine hxt 5 (h:=fun z X=>?_)
      go_simp
      refine hxo X (by trivial) (fun l=>?_)
      clear X z
      refine hxn 7 ?_
      refine hxn 8 ?_
      refine hxt 9 (h:=fun z X=>?_)
      go_simp
      refine hxo X (by trivial) (fun l=>?_)
      clear X z
      refine wpAnyH_done (by kernel_rfl) ?_ _
      go_wp2_with fail
      go_roundw
      case rel=>exact⟨j+1,om,zg,by rw[f.o];simp,A.o,F.o⟩
      case measure=>(simp[RowKit.intOf];omega)
    . skip
      go_simp
      refine hxo X (by trivial) (fun l=>?_)
      clear X z
      refine hxn 4 ?_
      refine hxr 0 5 (fun z X=>?_) (fun z X=>?_)
      . skip
        go_simp
        refine hxo X (by trivial) (fun l=>?_)
        clear X z
        refine hxt 5 (h:=fun z X=>?_)
        go_simp
        refine hxo X (by trivial) (fun l=>?_)
        clear X z
        refine hxn 7 ?_
        refine hxn 8 ?_
        refine hxt 9 (h:=fun z X=>?_)
        go_simp
        refine hxo X (by trivial) (fun l=>?_)
        clear X z
        refine wpAnyH_done (by kernel_rfl) ?_ _
        go_wp2_with fail
        go_roundw
        case rel=>exact⟨j+1,om,zg,by rw[f.o];simp,A.o,F.o⟩
        case measure=>(simp[RowKit.intOf];omega)
      . skip
        go_simp
        refine hxo X (by trivial) (fun l=>?_)
        clear X z
        refine hxn 7 ?_
        refine hxt 0 (h:=fun z X=>?_)
        go_simp
        refine hxo X (by trivial) (fun l=>?_)
        clear X z
        refine hxn 8 ?_
        refine hxt 9 (h:=fun z X=>?_)
        go_simp
        refine hxo X (by trivial) (fun l=>?_)
        clear X z
        refine wpAnyH_done (by kernel_rfl) ?_ _
        go_wp2_with fail
        go_roundw
        case rel=>exact⟨j+1,om,zg,by rw[f.o];simp,A.o,F.o⟩
        case measure=>(simp[RowKit.intOf];omega)
 have ho:¬(j:Int)<(a.length:Int):=om;have hp:j=a.length:=om;subst hp;rw[oz]at R|-;go_wp2_with fail;go_ret;exact⟨rfl,R,G⟩
structure Fr2(b g:Nat)(o:Option Nat)(w w':World):Prop where
 os:w'.os=w.os
 tape:w'.tape=w.tape
 output:w'.output=w.output
 size:w.heap.size<=w'.heap.size
 block:∀k,k<w.heap.size->k≠b->k≠g->some k≠o->w'.heap[k]?=w.heap[k]?
theorem Fr2.refl(b g:Nat)(o:Option Nat)(w:World):Fr2 b g o w w:=⟨rfl,rfl,rfl,oc _,fun _ _ _ _ _=>rfl⟩
theorem Fr2.trans{o c:Option Nat}(h:Fr2 b g o w G)(n:Nw o w c)(k:Fr2 b g c G W):Fr2 b g o w W :=
 ⟨k.os.trans h.os,k.tape.trans h.tape,k.output.trans h.output,nle h.size k.size,fun i J C H O=>by
  rw[k.block i (nlt J h.size) C H fun e=>?_,h.block i J C H O]
  rcases n with n|n
  . rw[n]at e;exact O e
  . have:=n i e.symm;omega⟩
theorem Ext.fr2{e:World}(h:Ext w e)(b g:Nat)(o:Option Nat):Fr2 b g o w e:=⟨h.os,h.tape,h.output,h.size,fun k V _ _ _=>h.block k V⟩
theorem lk2{o:Option Nat}(h:w.grownBy W (some g)):Fr2 b g o w W:=⟨h.os,h.tape,h.output,h.size,fun k V _ H _=>h.block k V (fun e=>H (by cases e;rfl))⟩
theorem Fr2.ext{o:Option Nat}(h:Fr2 b g o w W)(E:Ext P w)(C:P.heap.size<=b)(H:P.heap.size<=g)(O:∀k,o=some k->P.heap.size<=k):Ext P W:=by
 have S:=E.size;refine⟨h.os.trans E.os,h.tape.trans E.tape,h.output.trans E.output,nle S h.size,fun k V=>?_⟩;rw[h.block k (nlt V S) om om fun e=>by have:=O k e.symm;omega];exact E.block k V
theorem Fr2.blk{o:Option Nat}(h:Fr2 b g o w W){c:Nat}(B:Blk w c T s)(C:c≠b)(H:c≠g)(O:o≠some c):Blk W c T s:=by
 unfold Blk;rw[h.block c B.lt C H fun e=>O e.symm];exact B
theorem G5.set_ne{v:Value}(h:G5 P w v A)(B:Blk w b 116 c)(u:Value):G5 P (w.setCell (aD b i) u) v A:=by
 obtain⟨L,o,r,T⟩:=h;exact⟨L,o,r.set_ne (r.not B (by decide)) u,fun j H=>(T j H).other B (by decide) i u⟩
theorem jb3(va q C pT pY:Value)(A:List (LN))(X B:LN)(i0:Int)(r b:Nat)(wa P w:World)(D:Blk w b 116 #[C])(hh:Blk w r 92 #[va])(O:G5 P w C B)(S:I1 wa w va A)(u:c8 w q (b9 X))(ho:∀x∈X,x<A.length)(hw:Ext P w)(hv:X.length<=999)(hD:B.length<1000000000000):Calls Tryz.prog 265 #[vi i0,vi 0,q,.pointer (some (aD r 0)),.pointer (some (aD b 0)),pT,pY] w fun e W=>e=.returned (.tuple #[])/\∃R,Blk W b 116 #[R]/\G5 P W R (B++[X.length])/\Fr b C.ownBlock w W/\Nw C.ownBlock w R.ownBlock:=by
 obtain⟨aX,cX,ac,rfl,ha,hb⟩:=u.nats;have hz:=j2 (c:=cX) elI szI ha;obtain⟨aA,d,rfl,-,hc⟩:=S.shape;have HA:=zh hc;obtain⟨aO,cO,rfl,-⟩:=O.shape;have Hb:=zh hh;have Y:=zh D;have HO:=zh O;have Hx:=zh hb;have f:E0 40 w (w.alloc (.cells #[] 40)) (.slice (some (aD w.heap.size 0)) 0 0) []:=by9 (er w);have F:=(er w).alloc (.cells #[] 40);clear ha hc hh D O hb u S;go_in;go_wp2_with fail;go_loopw [10,19] (fun so s wr=>∃(j:Nat) (M:List Value),j<=X.length/\s=vi j/\M.length=j/\E0 40 w wr so M/\Ext w wr) (fun _ s _=>X.length-(RowKit.intOf s).toNat);exact⟨0,[],om,rfl,rfl,f,F⟩
 clear f F;obtain⟨j,M,hj,rfl,Z,z,E⟩:=hrel;have m:=zh Z;obtain⟨a,T,rfl,-⟩:=z.shape;clear Z;by_cases U:j<X.length
 . have hI:(j:Int)<(X.length:Int):=om;have K:d5 X j<A.length:=ho _ (m7 U);have hs:=Hx.o j wr U E;obtain⟨x,he⟩:=nq (d5 X j);rw[<-he]at K hs;obtain⟨p,y,rfl,hy,hf⟩:=HA.o x K;have hC:=bg5 elV szV p A.length d;have kA:=E.cell hy;have kB:=(Hb.o.ext E).cell (i:=0) (v:=.slice (some (aD p 0)) A.length d) rfl;have cC:=E3 _ _ wr ((hf.ext E).ints);have n:M.length<1000000000000:=(by rw[m.o];omega);clear he hy hf;go_wp2_with(first|(go_at_call 170;refine cC.mono ?_;rintro e w2⟨v2,rfl,hl,I⟩;obtain⟨ab,c2,rfl,-⟩:=hl.shape)|(at_builtin;refine b80 slV rfl _ _ rfl w w2 _ M _ rfl (z.ext I) (E.trans I) n rfl rfl ?_;intro v5 w5 h G N));go_roundw;exact⟨j+1,_,om,zg,by rw[oh,oo,m.o],h,(E.trans I).grown G (fun g H=>(z.blk g H).1)⟩;(simp[RowKit.intOf];omega)
 have hI:¬(j:Int)<(X.length:Int):=om;have hp:j=X.length:=om;obtain⟨L,t,l,hu⟩:=HO.o;have kO:=(Y.o.ext E).cell (i:=0) (v:=.slice aO B.length cO) rfl;have n:L.length<1000000000000:=om;have Ha:=zh t;have hR:=j25 z (by rw[m.o];omega);clear t;go_wp2_with(at_builtin;refine b80 slW rfl _ _ rfl P wr _ L _ rfl (l.ext E) (hw.trans E) n rfl rfl ?_;intro v5 w5 h G N;have Q:=(Y.o.ext E).grown G (fun k V e=>(l.ext E).not (Y.o.ext E) (by decide) (by rw[V,e]));have hG:=Q.free 0;have hH:=Q.cell (i:=0) rfl;obtain⟨aa,c5,rfl,-⟩:=h.shape);have ht:(L++[Value.slice a M.length T]).length=L.length+1:=zm;rw[ht]at h N;have hr:=Q.set 0 (.slice aa (L.length+1) c5);go_wp2_with fail;have hq:Y9 wr (Value.slice a M.length T) X.length:=by
  have e:M.length=X.length:=(by rw[m.o,hp]);exact Eq.mp (congrArg (Y9 wr (Value.slice a M.length T)) e) hR
 have hm:=G5.more Ha.o (l.ext E) (fun i J=>(hu i J).ext E) hq h G;refine bodyPost_ret (v:=.tuple #[]) (by simp[results,Tryz.results265,go_sem]) rfl ?_;exact⟨rfl,_,hr,hm.set_ne Q _,((E.fr _ _).trans (Nw.refl _ _) ((bu8 G).trans N (b39 _ _ _ _ _))),(Nw.refl _ _).trans E.size N⟩
theorem Fr.to2{o:Option Nat}{e:World}(h:Fr b o w e):Fr2 b g o w e:=⟨h.os,h.tape,h.output,h.size,fun k V C _ H=>h.block k V C H⟩
def bh1(g:Nat)(w:World)(u:Value)(a:LN):Prop:=(a=[]/\∃Q c,u=.slice Q 0 c)\/(R6 w u a/\u.ownBlock≠some g)
theorem bh1.e{u:Value}(h:bh1 g w u a):b03 w u a:=by
 rcases h with h|h;exact Or.inl h;exact Or.inr h.1
theorem R3{c:Nat}{t:TypeId}{C:Array Value}(h:Blk w b T s)(k:Blk w c t C)(H:T≠t):b≠c:=fun e=>by
 subst e
 have A:w.heap[b]?=some (.cells s T (0,0)):=h
 have K:w.heap[b]?=some (.cells C t (0,0)):=k
 rw[A]at K
 simp at K
 exact H K.2
theorem bh1.fr2{u v:Value}(h:bh1 g w u a)(B:Blk w b 116 c)(O:G5 P w v A)(hF:Fr2 b g v.ownBlock w W):bh1 g W u a:=by
 rcases h with h|⟨⟨S,k,cap,s,o,r,T,d⟩,H⟩;exact Or.inl h;refine Or.inr ⟨⟨S,k,cap,s,o,r,hF.blk T (R3 T B (by decide)) (fun e=>H (by rw[o,e];rfl)) (O.not T (by decide)),d⟩,H⟩
theorem bh1.ext{e:World}{u:Value}(h:bh1 g w u a)(E:Ext w e):bh1 g e u a:=by
 rcases h with h|⟨o,r⟩;exact Or.inl h;exact Or.inr ⟨o.ext E,r⟩
theorem R6.grown_ne{u:Value}(h:R6 w u a)(n:u.ownBlock≠some g)(H:w.grownBy W (some g)):R6 W u a:=by
 obtain⟨S,k,cap,c,o,r,T,b⟩:=h;exact⟨S,k,cap,c,o,r,T.grown H fun j J e=>n (by rw[o,<-e];exact J.symm),b⟩
theorem bh1.grown{e:World}{u:Value}(h:bh1 g w u a)(H:w.grownBy e (some g)):bh1 g e u a:=by
 rcases h with h|⟨o,r⟩;exact Or.inl h;exact Or.inr ⟨o.grown_ne r H,r⟩
structure FacS(w00:World)(gA mA:Nat)(Y:Nat->Value)(A:List (LN))(n bA bL gL:Nat)(bT bY:Nat)(vT vY:Value)(W:World):Prop where
 cA:Blk W bA 92 #[.slice (some (aD gA 0)) A.length mA]
 own:I1 w00 W (.slice (some (aD gA 0)) A.length mA) A
 row:∀i,i<A.length->W.cell? (aD gA i)=some (Y i)/\R6 W (Y i) (A.getD i [])/\(Y i).ownBlock≠some gL
 cL:Blk W bL 40 #[.slice (some (aD gL 0)) n n]
 cT:W.cell? (aD bT 0)=some vT
 cY:W.cell? (aD bY 0)=some vY
def TrP(P:World)(b g:Nat)(w:World)(o:Value)(O:LN)(C:LI)(v:Value)(e:World):Prop:=Blk e b 116 #[v]/\G5 P e v O/\W5 e g C/\Fr2 b g o.ownBlock w e/\Nw o.ownBlock w v.ownBlock
theorem TrP.trans{w3:World}{v V:Value}(h:TrP P b g w v A C o G)(k:TrP P b g G o B D V w3):TrP P b g w v B D V w3 :=
 ⟨k.1,k.2.1,k.2.2.1,h.2.2.2.1.trans h.2.2.2.2 k.2.2.2.1,h.2.2.2.2.trans h.2.2.2.1.size k.2.2.2.2⟩
theorem TrP.refl{v:Value}(o:Blk w b 116 #[v])(r:G5 P w v A)(T:W5 w g C):TrP P b g w v A C v w:=⟨o,r,T,Fr2.refl _ _ _ _,Nw.refl _ _⟩
theorem G5.row{v:Value}(h:G5 P w v A)(B:W5 w g C)(H:w.grownBy W (some g)):G5 P W v A:=by
 obtain⟨M,o,L,d⟩:=h;obtain⟨r,T,a⟩:=id L;refine⟨M,o,⟨r,T.kept H ?_,a⟩,fun i J=>?_⟩
 . cases V:v.ownBlock with
   |none=>simp
   |some k =>
    simp;intro e;exact L.not B (by decide) (by rw[V,e])
 obtain⟨Y,b,X,Z,K⟩:=d i J;refine⟨Y,b,X,Z,?_⟩;rcases K with K|⟨k,cap,c,K,m,f,n⟩;exact Or.inl K;exact Or.inr ⟨k,cap,c,K,m,f.grown H (fun j l e=>by cases l;exact R3 f B (by decide) e.symm),n⟩
theorem TrP.row{v:Value}(h:TrP P b g w v A C o G)(R:W5 W g D)(H:G.grownBy W (some g)):TrP P b g w v A D o W :=
 ⟨h.1.grown H (fun j J e=>by cases J;exact R3 h.1 h.2.2.1 (by decide) e.symm),h.2.1.row h.2.2.1 H,R,h.2.2.2.1.trans h.2.2.2.2 (lk2 H),h.2.2.2.2⟩
theorem TrP.ext{v:Value}(h:TrP P b g w v A C o G)(E:Ext G W):TrP P b g w v A C o W :=
 ⟨h.1.ext E,h.2.1.ext E,h.2.2.1.ext E,h.2.2.2.1.trans h.2.2.2.2 (E.fr2 _ _ _),h.2.2.2.2⟩
theorem dr8(h:bm0 n C R)(r:R.length<=10)(y:Nat):0<=nth C y/\nth C y<=10:=by
 by_cases H:y<n;rw[h.2 y H];have:=qu (a:=(y:Int)) (l:=R);omega;have:nth C y=0:=by
  unfold nth;rw[List.getD_eq_getElem?_getD,List.getElem?_eq_none (by rw[h.1];omega)];rfl
 omega
theorem m03(h:bm0 n C R)(i:R.length<=10)(H:∀x∈a,x<n)(l:a.length<=50)(y:Nat) : -100<=nth (tkS C 1 a) y/\nth (tkS C 1 a) y<=100:=by
 rw[bl6 _ _ _ (by rw[h.1];exact H)];have o:=dr8 h i y;have r:a.count y<=50:=nle qu l;omega
theorem l88(d:Nat)(L:LN):((L.map (· + 1)).map (d + ·))=L.map (d+1 + ·):=by
 rw[qQ];apply qA;intro x _;simp;omega
theorem ci7{p:Program}{o:Oper}{a:Act}{k:Act->World->Prop}{Q:Exit->Act->World->Prop}{I:TypeId}(t:IntSl p T I)
 (s x:Operand) (M:o.op=Op.call { callee:=Callee.builtin Builtin.append,args:=#[s,x],argTypes:=#[T,T] })
 (B P:World) (v u:Value) (l m:LI) (O:N7 I B P w v l) (i:c8 w u m) (E:Ext P w) (n:l.length+m.length<=17592186044416) (S:a.eval s=v) (K:a.eval x=u)
 (U:∀V e,N7 I B P e V (l++m)->Ext P e->Oth I w e->k (a.put o.dst V) e):Oper.wp p o a w k Q:=by
 obtain⟨V,e,R,h,r,H⟩:=cj7 t o.type B P w v u l m O i E n;unfold Oper.wp;simp[execOp,M,resolve,invoke,builtin,S,K,R,Result.andThen];exact U V e h r H
theorem jf1{X:World}{z c:Nat}{Y:Nat->Value}{A:List (LN)}{B T q:Nat}{t v:Value}(h:FacS X z c Y A n B b g T q t v W)(V:k<A.length){d:LI}(R:W5 W g d)(G:d.length=n)(C:∀y,-100<=nth d y/\nth d y<=100){m:Int}(H:m=1\/m = -1)(a:∀x∈A.getD k [],x<n)(l:(A.getD k []).length<=50):Calls Tryz.prog 264 #[Y k,vi m,.pointer (some (aD b 0))] W fun e w=>e=.returned (.bool (tkB d m (A.getD k [])))/\W5 w g (tkS d m (A.getD k []))/\W.grownBy w (some g):=by
 obtain⟨P,r,N⟩:=h.row k V;exact ld2 _ _ d m g b n W (fun j D=>(r.grown_ne N D).ints) H a l G C R h.cL (R3 R h.cL (by decide))
theorem zz8{P:Prop}(h:P:=by refine hxo H (by first|exact he|exact kS _ xq) (fun G=>?_);clear H z;refine hxt 13 (h:=fun z H=>?_);(refine ci7 slI _ _ rfl l l _ _ (b9 X) [(k:Int)] (Or.inr (by first|exact hk|exact hk.alloc _|exact(hk.alloc _).drew)) (Blk.ints1 (T:=3) zq2) xq hE rfl rfl ?_);intro vD wD hq hD an;obtain⟨aN,cN,rfl,hr,hN⟩:=NxP.of hq hD;refine hxo H (by first|exact he|exact kS _ xq) (fun G=>?_);clear H z;refine hxt 14 (h:=fun z H=>?_);go_simp;(go_at_call 265;(with_reducible refine od (cI wD _ hN (HY.o _ _ hr)) ?_);rintro e wF⟨rfl,vF,hA⟩);have hg:=(hc.ext hN).trans hA;have he:=Hf.o _ _ _ hg;refine hxo H (by first|exact he|exact kS _ xq) (fun G=>?_);clear H z;refine wpAnyH_done (by kernel_rfl) ?_ _;go_wp2_with fail;go_meet;exact⟨_,hg⟩):P:=h
theorem le3(g J:Nat)(YY:Nat->Value)(A:List (LN))(n E Y bL t s L:Nat)(o0:Option Nat)(wa m B:World)(au:A.length<=48)(hU:∀a∈A,1<=a.length)(hJ:∀a∈A,a.length<=50/\∀x∈a,x<n)
 (HZ:Hid (∀W,Fr2 Y L o0 B W->FacS wa g J YY A n E bL L t s (.func (.func 264) #[] #[.pointer (some (aD bL 0))]) (.func (.func 265) #[] #[.pointer (some (aD E 0)),.pointer (some (aD Y 0)),.pointer (some (aD t 0)),.pointer (some (aD s 0))]) W))
 (F:Ext m B) (ac:m.heap.size<=Y) (ad:m.heap.size<=L) (hY:∀k,o0=some k->m.heap.size<=k) (ai:L<B.heap.size) :
 ∀(f I:Nat) (R:LI) (X Z:LN) (p:LI) (vX V:Value) (w:World),R.length<f->X.length+R.length<=10->I<=A.length->Fr2 Y L o0 B w->Nw o0 B V.ownBlock->bh1 L w vX X->(∀x∈X,x<A.length)->Blk w Y 116 #[V]->G5 m w V Z->W5 w L p->bm0 n p R->Z.length+(U8 A f I R).length<=254803968 ->
 Calls Tryz.prog 265 #[vi I,vi R.length,vX,.pointer (some (aD E 0)),.pointer (some (aD Y 0)),.pointer (some (aD t 0)),.pointer (some (aD s 0))] w fun e w'=>e=.returned (.tuple #[])/\∃va,TrP m Y L w V (Z++(U8 A f I R).map (X.length + ·)) p va w':=by
 intro f;induction f with
 |zero=>intro I R X Z p vX V w hf;omega
 | succ f ih =>
  intro I R X Z p vX V w hf af ap hZ ag hX ht hB O hR hC H;have aa:R.length<=10:=om;by_cases h0:R.length=0
  . have hS:=HZ.o w hZ;have q:=jb3 (.slice (some (aD g 0)) A.length J) vX V (.pointer (some (aD t 0))) (.pointer (some (aD s 0))) A X Z (I:Int) E Y wa m w hB hS.cA O hS.own hX.e.ints ht (hZ.ext F ac ad hY) om om;rw[bx8 h0,show((R.length:Nat):Int)=0 by omega];refine q.mono ?_;rintro e w'⟨rfl,va,h1,r,h3,h4⟩;exact⟨rfl,va,h1,r,h3.blk hR (R3 hR hB (by decide)) (O.not hR (by decide)),h3.to2,h4⟩
  . have ax:(((R.length:Nat):Int) == 0)=false:=(by rw[beq_eq_false_iff_ne];omega);have Hh:=zh ih;have HK:=zh H;have Hd:=zh (bu7 (A:=A) (f:=f) (i0:=I) (R:=R) h0);have Hj:=zh (fun k d=>cg4 A f I R k d);have Hn:=zh hJ;have Hp:=zh hU;have Hm:=zh ht;have HC:=zh hC;have He:=zh (TrP.refl hB O hR);have Hw:=zh hZ;have Ho:=zh ag;have HR:=zh (And.intro hf af);have Hx:=zh (fun W M D' N (hQ:TrP m Y L w V M D' N W)=>hX.fr2 hB O hQ.2.2.2.1);have Hu:=zh (And.intro hZ.size ai);obtain⟨aX,cX,rfl⟩:=hX.e.shape;clear ih H h0 hX ht hC hB O hR hZ ag hJ hU F ac ad hY ai hf af;go_in;go_wp2_with fail;go_loopw [13] (fun xv wr=>∃(k:Nat) (u:Value),I<=k/\k<=A.length/\xv=vi k/\TrP m Y L w V (Z++(U9 A f I R k).map (X.length + ·)) p u wr) (fun xv _=>A.length-(RowKit.intOf xv).toNat);exact⟨I,V,oc _,ap,rfl,by rw[b61 A f I R I (oc _),pj,pV];exact He.o⟩;case round =>
     clear He;obtain⟨k,u,am,aq,rfl,hP⟩:=hrel;have ho:=hP.ext ((er wr).drew);have S1:=HZ.o _ (Hw.o.trans Ho.o ho.2.2.2.1);have kA:wr.cell? (aD E 0)=some (.slice (some (aD g 0)) A.length J):=S1.cA.cell (i:=0) rfl;by_cases U:k<A.length
     . have al:(k:Int)<(A.length:Int):=om;obtain⟨hL,hn⟩:=Hn.o _ (cn9 U);have cnt:=fun y=>dr8 HC.o aa y;have cT:=jf1 S1 U ho.2.2.1 HC.o.1 (fun y=>by have:=cnt y;omega) (Or.inl rfl) hn hL;rw[ly4 HC.o hn]at cT;have tb:=m03 HC.o aa hn hL;have ah:=(S1.row k U).2.1;have Ha:=zh (fun h=>jf0 (A:=A) (f:=f) (i0:=I) (R:=R) (k:=k) h);have Hs:=zh (fun h=>du8 (A:=A) (f:=f) (i0:=I) (R:=R) (k:=k) am h);have Ht:=zh (fun h=>ly3 HC.o hn h);have Hl:=zh (fun h=>bs8 (A.getD k []) R h);have Hk:=zh (ld5 p (A.getD k []) (fun x K=>by rw[HC.o.1];exact hn x K));have hV:=Hp.o _ (cn9 U);have Hb:∀(M:LN) (D':LI) (N:Value) (w3:World),TrP m Y L w V M D' N w3->w3.cell? (aD t 0)=some (.func (.func 264) #[] #[.pointer (some (aD bL 0))])/\w3.cell? (aD s 0)=some (.func (.func 265) #[] #[.pointer (some (aD E 0)),.pointer (some (aD Y 0)),.pointer (some (aD t 0)),.pointer (some (aD s 0))])/\w3.cell? (aD E 0)=some (.slice (some (aD g 0)) A.length J)/\w3.cell? (aD g k)=some (YY k):=fun M D' N w3 hQ=>by
        have S3:=HZ.o _ (Hw.o.trans Ho.o hQ.2.2.2.1)
        exact⟨S3.cT,S3.cY,S3.cA.cell (i:=0) rfl,(S3.row k U).1⟩
       have Hc:∀(M:LN) (N:Value) (w3:World),TrP m Y L w V M (tkS p 1 (A.getD k [])) N w3->Calls Tryz.prog 264 #[YY k,vi (-1),.pointer (some (aD bL 0))] w3 fun e w'=>(∃b,e=.returned (.bool b))/\TrP m Y L w V M p N w':=fun M N w3 hQ=>by
        have S3:=HZ.o _ (Hw.o.trans Ho.o hQ.2.2.2.1)
        have q:=jf1 S3 U hQ.2.2.1 (by rw[bs9];exact HC.o.1) tb (Or.inr rfl) hn hL
        rw[Hk.o]at q
        exact q.mono fun e w' hh=>⟨⟨_,hh.1⟩,hQ.row hh.2.1 hh.2.2⟩
       obtain⟨a,hz⟩:=nq (A.getD k []);obtain⟨y,hT⟩:=nq (YY k);simp only[<-hz,<-hT]at cT Hb Hc ah;rw[<-hz]at hL hn Ha Hs Ht Hl Hk hV;obtain⟨-,gy,cy,-,rfl,-,-,-⟩:=ah;have HF:=zh Hb;have HT:=zh Hc;obtain⟨sT,-,kd,hM⟩:=Hb _ _ _ _ ho;have av:=bg5 elV szV g A.length J;have Hg:=zh ho;clear S1 hz hT hP ho cnt Hb Hc tb;cases C:T0 R (b9 a)
       . have Hv:=zh (Ha.o C);rw[C]at cT;clear Ha Hs Ht Hl C;go_wp2_with fail;refine wp_region_held_drew (S:=(fun W=>W.cell? (aD t 0)=some (.func (.func 264) #[] #[.pointer (some (aD bL 0))])/\W.cell? (aD E 0)=some (.slice (some (aD g 0)) A.length J)/\W.cell? (aD g k)=some (.slice (some (aD gy 0)) a.length cy))) (by kernel_rfl) (by exact⟨sT,kd,hM⟩) (fun G=>?_);refine hxn 0 ?_;refine hxn 1 ?_;refine hxn 2 ?_;refine hxn 3 ?_;refine hxn 4 ?_;refine hxt 5 (h:=fun z H=>?_);go_simp;(go_at_call 264;(with_reducible refine od cT ?_);rintro e l⟨rfl,hv,hu⟩);have hc:=Hg.o.row hv hu;obtain⟨t1,-,t2,t3⟩:=HF.o _ _ _ _ hc;refine hxo H (by exact⟨t1,t2,t3⟩) (fun G=>?_);clear H z;refine wpAnyH_done (by kernel_rfl) ?_ _;go_wp2_with fail;have ca:=HT.o _ _ _ (hc.ext ((er l).drew));refine wp_region_held_drew (S:=(fun W=>W.cell? (aD t 0)=some (.func (.func 264) #[] #[.pointer (some (aD bL 0))])/\W.cell? (aD E 0)=some (.slice (some (aD g 0)) A.length J)/\W.cell? (aD g k)=some (.slice (some (aD gy 0)) a.length cy))) (by kernel_rfl) (by exact⟨t1,t2,t3⟩) (fun G=>?_);refine hxn 0 ?_;refine hxn 1 ?_;refine hxn 2 ?_;refine hxn 3 ?_;refine hxn 4 ?_;refine hxt 5 (h:=fun z H=>?_);go_simp;(go_at_call 264;(with_reducible refine od ca ?_);rintro e w4⟨⟨b4,rfl⟩,hm⟩);obtain⟨r1,-,r2,r3⟩:=HF.o _ _ _ _ hm;refine hxo H (by exact⟨r1,r2,r3⟩) (fun G=>?_);clear H z;refine wpAnyH_done (by kernel_rfl) ?_ _;go_wp2_with fail;go_roundw;exact⟨k+1,u,om,om,zg,by rw[Hv.o];exact hm⟩;(simp[RowKit.intOf];omega)
       . have ae:=Hs.o C;have hH:=Ht.o C;have ab:=Hl.o C;rw[C]at cT;obtain⟨NN,hG⟩:=nq ((S0 R a).length);have aw:IntKind.i64.wrap (((R.length:Nat):Int)-((a.length:Nat):Int))=(NN:Int):=(by rw[oD _ om];omega);have hE:(b9 X).length+[(k:Int)].length<=17592186044416:=(by have:=HR.o.2;rw[d9];simp;omega);have ak:(X++[k]).length<=1000:=(by have:=HR.o.2;simp;omega);have HE:=zh ae;have Hq:=zh hH;have Hy:=zh (And.intro ab hV);have Hr:=zh hG;have he:=True.intro;clear Ha Hs Ht Hl C ae hH ab hG;go_wp2_with fail;refine wp_region_held_drew (S:=(fun W=>W.cell? (aD t 0)=some (.func (.func 264) #[] #[.pointer (some (aD bL 0))])/\W.cell? (aD E 0)=some (.slice (some (aD g 0)) A.length J)/\W.cell? (aD g k)=some (.slice (some (aD gy 0)) a.length cy))) (by kernel_rfl) (by exact⟨sT,kd,hM⟩) (fun G=>?_);refine hxn 0 ?_;refine hxn 1 ?_;refine hxn 2 ?_;refine hxn 3 ?_;refine hxn 4 ?_;refine hxt 5 (h:=fun z H=>?_);go_simp;(go_at_call 264;(with_reducible refine od cT ?_);rintro e l⟨rfl,hv,hu⟩);have hc:=Hg.o.row hv hu;obtain⟨t1,-,t2,t3⟩:=HF.o _ _ _ _ hc;refine hxo H (by exact⟨t1,t2,t3⟩) (fun G=>?_);clear H z;refine wpAnyH_done (by kernel_rfl) ?_ _;go_upto_region 12 with fail;have cI:∀W vN,Ext l W->bh1 L W vN (X++[k])->Calls Tryz.prog 265 #[vi k,vi NN,vN,.pointer (some (aD E 0)),.pointer (some (aD Y 0)),.pointer (some (aD t 0)),.pointer (some (aD s 0))] W fun e w'=>e=.returned (.tuple #[])/\∃va,TrP m Y L W u (Z++(U9 A f I R (k+1)).map (X.length + ·)) (tkS p 1 a) va w':=fun W vN D hI=>by
          have hQ:=hc.ext D
          have h1:=HK.o
          have r:=Hj.o (k+1) (A.length-(k+1))
          rw[show k+1+(A.length-(k+1))=A.length by omega,<-Hd.o,HE.o,oh,oG]at r
          have h3:=HR.o
          have h4:=Hy.o
          have q:=Hh.o k (S0 R a) (X++[k]) (Z++(U9 A f I R k).map (X.length + ·)) (tkS p 1 a) vN u W om (by rw[oh,oo];omega) om (Hw.o.trans Ho.o hQ.2.2.2.1) (Ho.o.trans Hw.o.size hQ.2.2.2.2) hI (fun x K=>by
           rw[oP,oE]at K
           rcases K with K|rfl
           . exact Hm.o x K
           . exact U) hQ.1 hQ.2.1 hQ.2.2.1 Hq.o (by rw[oh,oG];omega)
          rw[oh,oo,pr,<-l88,<-pF,<-HE.o,<-Hr.o]at q
          exact q
         have Hi:=zh (fun W (D:Ext l W)=>((Hx.o _ _ _ _ (hc.ext D))).e.ints);have HY:Hid (∀W v,Own 3 l W v (b9 (X++[k]))->bh1 L W v (X++[k])):=zh (fun W v O=>Or.inr ⟨be3 O zm ak,fun e=>by
          have h1:=(O.blk _ e).1
          have r:=hc.2.2.2.1.size
          have h3:=Hu.o
          omega⟩)
         have kS:∀W,Ext l W->W.cell? (aD s 0)=some (.func (.func 265) #[] #[.pointer (some (aD E 0)),.pointer (some (aD Y 0)),.pointer (some (aD t 0)),.pointer (some (aD s 0))])/\W.cell? (aD E 0)=some (.slice (some (aD g 0)) A.length J)/\W.cell? (aD g k)=some (.slice (some (aD gy 0)) a.length cy):=fun W D=>(HF.o _ _ _ _ (hc.ext D)).2;have Hf:Hid (∀M N W,TrP m Y L w V M (tkS p 1 a) N W->W.cell? (aD s 0)=some (.func (.func 265) #[] #[.pointer (some (aD E 0)),.pointer (some (aD Y 0)),.pointer (some (aD t 0)),.pointer (some (aD s 0))])/\W.cell? (aD E 0)=some (.slice (some (aD g 0)) A.length J)/\W.cell? (aD g k)=some (.slice (some (aD gy 0)) a.length cy)):=zh (fun M N W hQ=>(HF.o _ _ _ _ hQ).2);have ar:Ext l l:=er _;go_cut [] (fun wx=>∃vF,TrP m Y L w V (Z++(U9 A f I R (k+1)).map (X.length + ·)) (tkS p 1 a) vF wx);case first =>
          refine wp_region_held_drew (S:=(fun W=>W.cell? (aD s 0)=some (.func (.func 265) #[] #[.pointer (some (aD E 0)),.pointer (some (aD Y 0)),.pointer (some (aD t 0)),.pointer (some (aD s 0))])/\W.cell? (aD E 0)=some (.slice (some (aD g 0)) A.length J)/\W.cell? (aD g k)=some (.slice (some (aD gy 0)) a.length cy))) (by kernel_rfl) (by exact kS _ xq) (fun G=>?_);refine hxn 0 ?_;refine hxn 1 ?_;refine hxn 2 ?_;refine hxn 3 ?_;refine hxn 4 ?_;refine hxn 5 ?_;refine hxn 6 ?_;refine hxn 7 ?_;refine hxn 8 ?_;refine hxn 9 ?_;refine hxn 11 ?_;refine hxr 10 12 (fun z H=>?_) (fun z H=>?_)
          . skip;go_simp;(go_at_call 170;(with_reducible refine od (Calls.sh (E3 _ _ _ (Hi.o _ xq))) ?_);rintro eC wC⟨aC,cC,rfl,hp,hXC⟩);have ao:=og (a:=l) xq hXC;have hk:=hp.mono (show Ext l _ by repeat(first|assumption|exact er _|(apply pA;assumption)|apply pB|apply oQ));refine hxo H (by first|exact he|exact kS _ xq) (fun G=>?_);clear H z;refine hxt 12 (h:=fun z H=>?_);go_simp;exact zz8
          . skip;go_simp;refine hxo H (by first|exact he|exact kS _ xq) (fun G=>?_);clear H z;refine hxt 10 (h:=fun z H=>?_);go_simp;(go_at_call 170;(with_reducible refine od (Calls.sh (E3 _ _ _ (Hi.o _ xq))) ?_);rintro eC wC⟨aC,cC,rfl,hp,hXC⟩);have ao:=og (a:=l) xq hXC;have hk:=hp.mono (show Ext l _ by repeat(first|assumption|exact er _|(apply pA;assumption)|apply pB|apply oQ));exact zz8
         case rest =>
          obtain⟨vF,hg⟩:=hcut;obtain⟨t1,-,t2,t3⟩:=HF.o _ _ _ _ hg;have ca:=HT.o _ _ _ (hg.ext ((er wc).drew));go_wp2_with fail;refine wp_region_held_drew (S:=(fun W=>W.cell? (aD t 0)=some (.func (.func 264) #[] #[.pointer (some (aD bL 0))])/\W.cell? (aD E 0)=some (.slice (some (aD g 0)) A.length J)/\W.cell? (aD g k)=some (.slice (some (aD gy 0)) a.length cy))) (by kernel_rfl) (by exact⟨t1,t2,t3⟩) (fun G=>?_);refine hxn 0 ?_;refine hxn 1 ?_;refine hxn 2 ?_;refine hxn 3 ?_;refine hxn 4 ?_;refine hxt 5 (h:=fun z H=>?_);go_simp;(go_at_call 264;(with_reducible refine od ca ?_);rintro e w4⟨⟨b4,rfl⟩,hm⟩);obtain⟨r1,-,r2,r3⟩:=HF.o _ _ _ _ hm;refine hxo H (by exact⟨r1,r2,r3⟩) (fun G=>?_);clear H z;refine wpAnyH_done (by kernel_rfl) ?_ _;go_wp2_with fail;go_roundw;exact⟨k+1,vF,om,om,zg,hm⟩;(simp[RowKit.intOf];omega)
     . have al:¬(k:Int)<(A.length:Int):=om;have aj:k=A.length:=om;subst aj;go_wp2_with fail;go_end0;exact⟨rfl,u,by rw[Hd.o];exact hP⟩
theorem dy8(F:LN):Lib.compact ((b9 F).mergeSort fun x y=>decide (x<=y))=b9 (V3 F):=by
 have p:((b9 F).mergeSort fun x y=>decide (x<=y)).Pairwise (·<=·):=by
  have:=List.pairwise_mergeSort (le:=fun x y:Int=>decide (x<=y)) (fun a b c o r=>by simp at *;omega) (fun a b=>by simp;omega) (b9 F);exact this.imp (fun h=>by simpa using h)
 obtain⟨o,r⟩:=da5 _ p;refine jc3 (fun x=>?_) o ?_
 rw[r,List.mem_mergeSort];unfold b9;rw[pp,pp];constructor;rintro⟨n,H,e⟩;exact⟨n,(cx5 F n).2 H,e⟩;rintro⟨n,H,e⟩;exact⟨n,(cx5 F n).1 H,e⟩;unfold b9;rw[List.pairwise_map];exact(dy7 F).imp (fun h=>om)
theorem G5.grownI{z:World}{v u:Value}{l:LI}(h:G5 P w v A)(O:Own 3 z w u l)(H:w.grownBy W u.ownBlock):G5 P W v A:=by
 have B:∀g,u.ownBlock=some g->∃c,Blk w g 3 c:=fun g e=>by
  obtain⟨⟨-,r⟩,-⟩:=O
  rcases r with⟨rfl,-⟩|⟨G,cap,U,rfl,-,b,-⟩
  cases e
  cases e;exact⟨U,b⟩
 obtain⟨M,o,L,d⟩:=h;obtain⟨r,T,a⟩:=id L;refine⟨M,o,⟨r,T.kept H ?_,a⟩,fun i J=>?_⟩
 . cases D:v.ownBlock with
   |none=>simp
   |some g =>
    simp;intro e;obtain⟨c,C⟩:=B g e.symm;exact L.not C (by decide) D
 obtain⟨Y,p,X,Z,K⟩:=d i J;refine⟨Y,p,X,Z,?_⟩;rcases K with K|⟨g,cap,c,K,m,f,n⟩;exact Or.inl K;refine Or.inr ⟨g,cap,c,K,m,f.grown H (fun k V e=>?_),n⟩;subst e;obtain⟨S,C⟩:=B k V;have j:w.heap[k]?=some (.cells S 3 (0,0)):=C;have s:w.heap[k]?=some (.cells c 40 (0,0)):=f;rw[j]at s;simp at s
theorem do7(R:LI)(w:World)(h:c8 w v l)(M:c8 w u R)
 (c:∀W,c8 W v l->c8 W u R->Calls Tryz.prog 176 #[.agg #[v],u] W fun e P=>(∃V,e=.returned (.tuple #[V,.bool (R8 l R)])/\G5 W P V (P3 l R))/\Ext W P) :
 Calls Tryz.prog 177 #[.agg #[v],u] w fun e P=>(∃V,e=.returned V/\Own 3 w P V (b9 (V3 (P3 l R))))/\Ext w P:=by
 obtain⟨B,Z,F,C,H,E,i⟩:=m04 42 h;clear h;have ha:∀W,Ext B W->c8 W u R:=fun W D=>M.ext (F.trans D);have Q:Own 3 B (B.alloc (.cells #[] 3)) (.slice (some (aD B.heap.size 0)) 0 0) []:=l9 om E [] rfl;have z:=E.alloc (.cells #[] 3);have he:=C _ z;have L:=fun W (D:Ext B W)=>c W (H W D) (ha W D);have hc:=du9 (l:=l) (R:=R);obtain⟨f,y⟩:=nq (P3 l R);rw[<-y]at hc|-;simp only[<-y]at L;have q:=zh (dy8 f);clear y c;go_in;go_wp2_with fail;rw[<-Z.o];rw[i.o];go_wp2_with(go_at_call 176;refine(L _ z).mono ?_;rintro e G⟨⟨v1,rfl,hF⟩,I⟩;obtain⟨aF,k,rfl,-⟩:=hF.shape);have T:=Q.ext I;have J:=z.trans I;clear Q z I;go_loopw [5,19] (fun so s wr=>∃j:Nat,j<=f.length/\s=vi j/\Own 3 B wr so (b9 (f.take j))/\G5 (B.alloc (.cells #[] 3)) wr (.slice aF f.length k) f/\Ext B wr) (fun _ s _=>f.length-(RowKit.intOf s).toNat);exact⟨0,om,rfl,T,hF,J⟩
 clear T hF J;obtain⟨j,hj,rfl,O,hF,r⟩:=hrel;by_cases U:j<f.length
 . have t:(j:Int)<(f.length:Int):=om;have b:=hF;obtain⟨aa,c3,A,-,S⟩:=b.shape;simp only[Value.slice.injEq]at A;obtain⟨rfl,-,rfl⟩:=A;obtain⟨gF,uF,rfl,hh,Y⟩:=S j U;have hi:=bg5 elW szW gF f.length k;obtain⟨d,hd⟩:=nq (f.getD j 0);rw[<-hd]at Y;obtain⟨aU,cU,rfl⟩:=Y.shape;have N:Hid (b9 (f.take (j+1))=b9 (f.take j)++[(d:Int)]):=zh (by rw[show f.take (j+1)=f.take j++[d] by rw[hd,pa U];simp[List.getD,U],G6]);have x:(b9 (f.take j)).length<17592186044416:=(by rw[d9,ol];omega);clear hd S Y;go_wp2_with(at_builtin;refine b33 slI rfl _ _ rfl B _ _ _ _ O r x rfl rfl ?_;intro v2 m X K hf);go_roundw;exact⟨j+1,om,zg,by rw[N.o];exact X,b.grownI O K,r.grown K (fun g H=>(O.blk g H).1)⟩;(simp[RowKit.intOf];omega)
 have t:¬(j:Int)<(f.length:Int):=om;have hl:j=f.length:=om;subst hl;rw[oz]at O;have n:=dk5 O r (by rw[d9];omega);go_wp2_with(first|(go_at_call 171;refine n.mono ?_;rintro e m⟨rfl,X,I⟩;have p:=ds9 X I (by rw[qT,d9];omega))|(go_at_call 266;refine p.mono ?_;rintro e w3⟨v3,rfl,a,J⟩));go_ret;exact⟨⟨_,rfl,by rw[q.o]at a;exact a.mono F⟩,F.trans J⟩
end Go.Zz
