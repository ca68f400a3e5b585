/- How many factorizations there are: plain. -/
import Derived.Test.YtnnbhcalddkmmaaGreatGr28
import Derived.Test.YtnnbhcalddkmmaaGreatGr20
set_option linter.unusedSimpArgs false
set_option linter.unusedVariables false
set_option linter.unnecessarySimpa false
set_option maxHeartbeats 2000000
set_option maxRecDepth 100000
namespace Go.Zz
def c87(A:List (List Nat)):Bool:=decide (A.getD 0 []=[0])&&(decide (1<=A.length)&&(A.drop 1).all fun a=>decide (2<=a.length)&&a.all fun x=>decide (x≠0))
theorem hc0:c87 (atS [])=true:=by decide +kernel
theorem hc1:((List.range 8).all fun a=>decide (a<2) || c87 (atS [(a:Int)]))=true:=by decide +kernel
theorem hc2:((List.range 8).all fun a=>decide (a<2) || (List.range 8).all fun b=>decide (b<2) || (decide (7<a*b) || c87 (atS [(a:Int),(b:Int)])))=true:=by decide +kernel
theorem cf5{l:List Int}(h:j1 l=true)(h7:ord l<=7):c87 (atS l)=true:=by
 have hc:=bc4 h;obtain⟨h3,hn,hp⟩:=(U8 l).1 h;have hp:A0 l<=7:=om;clear hc;match l,h3,hn,hp with
 | [],_,_,_=>exact hc0
 | [a],_,hn,hp =>
  have h0:2<=a∧a<=24:=hn 0 zm;have hp:a<=7:=by simpa[A0] using hp
  have:=b39 (rgS hc1 (a:=a.toNat) om) om;rwa [show ((a.toNat:Nat):Int)=a by omega] at this
 | [a,b],_,hn,hp =>
  have h0:2<=a∧a<=24:=hn 0 zm;have h1:2<=b∧b<=24:=hn 1 zm;have hpr:a*b<=7:=by simpa[A0] using hp
  have e:((a.toNat*b.toNat:Nat):Int)=a*b:=by rw[Int.natCast_mul];congr 1<;>omega
  have q1:a*2<=a*b:=Int.mul_le_mul_of_nonneg_left h1.1 om;have q2:2*b<=a*b:=Int.mul_le_mul_of_nonneg_right h0.1 om;have:=b39 (b39 (rgS (b39 (rgS hc2 (a:=a.toNat) om) om) (a:=b.toNat) om) om) om;rwa [show ((a.toNat:Nat):Int)=a by omega,show ((b.toNat:Nat):Int)=b by omega] at this
 | [a,b,c],_,hn,hp =>
  have h0:2<=a∧a<=24:=hn 0 zm;have h1:2<=b∧b<=24:=hn 1 zm;have h2:2<=c∧c<=24:=hn 2 zm;have hpr:a*b*c<=7:=by rw[Int.mul_assoc];simpa[A0] using hp
  have q0:2*2<=a*b:=Int.mul_le_mul h0.1 h1.1 om om;have q1:a*b*2<=a*b*c:=Int.mul_le_mul_of_nonneg_left h2.1 om;omega
 | _ :: _ :: _ :: _ :: _,h3,_,_=>simp at h3
structure HdA(A:List (List Nat)):Prop where
 one:1<=A.length
 first:A.getD 0 []=[0]
 more:∀k,1<=k->k<A.length->2<=(A.getD k []).length∧(A.getD k []).count 0=0
theorem db0{A:List (List Nat)}(h:c87 A=true):HdA A:=by
 unfold c87 at h;rw[Bool.and_eq_true,Bool.and_eq_true,decide_eq_true_eq,decide_eq_true_eq,List.all_eq_true] at h;refine⟨h.2.1,h.1,fun k h1 h2=>?_⟩;have hm:A.getD k []∈A.drop 1:=by
  rw[List.getD_eq_getElem?_getD,List.getElem?_eq_getElem h2,Option.getD_some];refine List.mem_iff_getElem.2 ⟨k - 1,by rw[List.length_drop];omega,?_⟩;rw[List.getElem_drop];congr 1;omega
 have:=h.2.2 _ hm;rw[Bool.and_eq_true,decide_eq_true_eq,List.all_eq_true] at this;refine⟨this.1,List.count_eq_zero.2 fun h0=>?_⟩;have:=this.2 0 h0;simp at this
theorem ja2{A:List (List Nat)}(hA:HdA A):∀f i0 R,1<=i0->0<R.count (0:Int)->R8 A f i0 R=[]:=by
 intro f;induction f with
 | zero=>intro i0 R _ _;rfl
 | succ f ih =>
  intro i0 R h1 h0;have hne:R.length≠0:=by have:=List.count_le_length (a:=(0:Int)) (l:=R);omega
  rw[bi6 hne];have key:∀k,k<=A.length->R9 A f i0 R k=[]:=by
   intro k;induction k with
   | zero=>intro _;exact b12 A f i0 R 0 om
   | succ k ihk =>
    intro hk;rw[b06,ihk om];split
    . rfl
    . split
      . next hlt hs =>
         have h2:=hA.more k om om;have h3:(O5 R (A.getD k [])).count (0:Int)+(A.getD k []).count 0=R.count (0:Int):=b83 _ _ hs 0;rw[h2.2] at h3;rw[ih k _ om om];rfl
      . rfl
  exact key A.length (Nat.le_refl _)
theorem jp9{A:List (List Nat)}(hA:HdA A)(h48:A.length<=48):∀f i0 R,(R8 A f i0 R).length<=48 ^ ((R.length - R.count (0:Int)) / 2):=by
 intro f;induction f with
 | zero=>intro i0 R;simp[R8]
 | succ f ih =>
  intro i0 R;by_cases h:R.length=0
  . rw[bm4 h,h];simp
  rw[bi6 h];have hcl:=List.count_le_length (a:=(0:Int)) (l:=R);by_cases h0:0<R.count (0:Int)
  . have key:∀k,k<=A.length->(R9 A f i0 R k).length<=if k=0 then 0 else 48 ^ ((R.length - R.count (0:Int)) / 2):=by
     intro k;induction k with
     | zero=>intro _;rw[b12 A f i0 R 0 om];simp
     | succ k ihk =>
      intro hk;have hi:=ihk om;rw[if_neg om];have hi2:(R9 A f i0 R k).length<=48 ^ ((R.length - R.count (0:Int)) / 2):=by
       split at hi
       . exact nle hi (Nat.zero_le _)
       . exact hi
      rw[b06];split
      . exact hi2
      . split
        . next hlt hs =>
           rw[List.length_append,List.length_map];by_cases hk0:k=0
           . subst hk0;rw[if_pos rfl] at hi;have h3:(O5 R (A.getD 0 [])).count (0:Int)+(A.getD 0 []).count 0=R.count (0:Int):=b83 _ _ hs 0;have h4:=bh3 _ _ hs;rw[hA.first] at h3 h4 ⊢;have h5:=ih 0 (O5 R [0]);have e1:(O5 R [0]).count (0:Int)+1=R.count (0:Int):=(by simpa using h3);have e2:(O5 R [0]).length+1=R.length:=(by simpa using h4);rw[show (O5 R [0]).length - (O5 R [0]).count (0:Int)=R.length - R.count (0:Int) by omega] at h5;omega
           . have h2:=hA.more k om om;have h3:(O5 R (A.getD k [])).count (0:Int)+(A.getD k []).count 0=R.count (0:Int):=b83 _ _ hs 0;rw[h2.2] at h3;rw[ja2 hA f k _ om om];simpa using hi2
        . exact hi2
    have:=key A.length (Nat.le_refl _)
    have h1:=hA.one
    rw[if_neg om] at this
    exact this
  . have hz:R.count (0:Int)=0:=(by omega);rw[hz,Nat.sub_zero];have key:∀k,k<=A.length->(R9 A f i0 R k).length<=k*48 ^ (R.length / 2 - 1)∧(R.length<2->R9 A f i0 R k=[]):=by
     intro k;induction k with
     | zero=>intro _;rw[b12 A f i0 R 0 om];simp
     | succ k ihk =>
      intro hk;obtain⟨hi,hi2⟩:=ihk om;have hp:0<48 ^ (R.length / 2 - 1):=Nat.pow_pos (by decide);rw[b06,Nat.succ_mul];split
      . exact⟨om,hi2⟩
      . split
        . next hlt hs =>
           by_cases hk0:k=0
           . subst hk0;have h3:(O5 R (A.getD 0 [])).count (0:Int)+(A.getD 0 []).count 0=R.count (0:Int):=b83 _ _ hs 0;rw[hA.first] at h3;have:(O5 R [0]).count (0:Int)+1=R.count (0:Int):=(by simpa using h3);omega
           . have h2:=hA.more k om om;have h4:=bh3 _ _ hs;have h5:=ih k (O5 R (A.getD k []));have h6:(O5 R (A.getD k [])).length<=R.length - 2:=om;have h7:48 ^ (((O5 R (A.getD k [])).length - (O5 R (A.getD k [])).count (0:Int)) / 2)<=48 ^ (R.length / 2 - 1):=Nat.pow_le_pow_right (by decide) om;rw[List.length_append,List.length_map];refine⟨om,fun hq=>om⟩
        . exact⟨om,hi2⟩
    have:=key A.length (Nat.le_refl _);by_cases hq:R.length<2
    . rw[this.2 hq];simp
    . have e:R.length / 2=(R.length / 2 - 1)+1:=(by omega);rw[e,Nat.pow_succ,Nat.mul_comm];exact nle (by simpa using this.1) (Nat.mul_le_mul_right _ h48)
theorem d96{l:List Int}(h:j1 l=true)(h7:ord l<=7)(f i0:Nat){R:List Int}(hR:R.length<=10):(R8 (atS l) f i0 R).length<=254803968:=by
 refine nle (jp9 (db0 (cf5 h h7)) (by rw[bg5];exact c08 h h7) f i0 R) ?_;exact nle (Nat.pow_le_pow_right (by decide) (show (R.length - R.count (0:Int)) / 2<=5 by omega)) (by decide)
open Go.RowKit Go.Proofs
structure SlT(TS TE:TypeId):Prop where
 info:(Tryz.prog.info? TE).map (fun i=>(i.zero,i.size,i.bytes))=some (some (.slice none 0 0),1,24)
 und:Tryz.prog.underlying TS=some (.slice TE)
theorem slV:SlT 93 26:=⟨dv7,di1⟩
theorem slW:SlT 88 93:=⟨by kernel_rfl,by kernel_rfl⟩
theorem elW:Tryz.prog.underlying 88=some (.slice (Tryz.prog.elem 88)):=by kernel_rfl
theorem szW:∀w,(Go.sizeOf (Tryz.prog.elem 88)).run Tryz.prog w=.ok 1 w:=fun w=>by kernel_rfl
def A5(TE:TypeId)(w0 w:World)(v:Value)(L:List Value):Prop:=(∀u∈L,u.oneCell'=true)∧w.ownsRow w0.heap.size TE 1 v L.length L∧L.length<=1000000000000
section
variable {TS TE:TypeId} {w0 w w':World} {v:Value} {L:List Value}
theorem A5.blk(h:A5 TE w0 w v L):∀k,v.ownBlock=some k->w0.heap.size<=k∧k<w.heap.size:=h.2.1.lt
theorem A5.ext(h:A5 TE w0 w v L)(hE:Ext w w'):A5 TE w0 w' v L:=by
 obtain⟨h2,h3,h4⟩:=h;refine⟨h2,h3.kept (row:=none) ⟨hE.os,hE.tape,hE.output,hE.size,fun k hk _=>hE.block k hk⟩ ?_,h4⟩;cases hv:v.ownBlock<;>simp
theorem A5.mono{w1:World}(h:A5 TE w1 w v L)(hE:Ext w0 w1):A5 TE w0 w v L:=⟨h.1,R0 h.2.1 hE.size,h.2.2⟩
theorem bn2(hE:Ext w0 w):A5 TE w0 (w.alloc (.cells #[] TE)) (.slice (some ⟨w.heap.size,0,none⟩) 0 0) []:=by
 have:=World.ownsRow_lit (base:=w0.heap.size) (e:=TE) (size:=1) w #[] 0 hE.size (by unfold maxLen;omega) zm;exact⟨zm,by simpa using this,zm⟩
theorem dd7(hE:Ext w0 w){y:Value}(hy:y.oneCell'=true):A5 TE w0 (w.alloc (.cells #[y] TE)) (.slice (some ⟨w.heap.size,0,none⟩) 1 1) [y]:=by
 have:=World.ownsRow_lit (base:=w0.heap.size) (e:=TE) (size:=1) w #[y] 1 hE.size (by unfold maxLen;omega) zm;exact⟨by simpa using hy,by simpa using this,zm⟩
theorem A5.shape(h:A5 TE w0 w v L):∃(ao:Option Addr) (c:Nat),v=.slice ao L.length c∧L.length<=c∧(∀i,i<L.length->∃g,ao=some ⟨g,0,none⟩∧w.cell? ⟨g,i,none⟩=some (L.getD i (.slice none 0 0))):=by
 obtain⟨-,h1,-⟩:=h;have h2:=h1.2;rcases h2 with ⟨rfl,hl⟩ | ⟨g,cap,cur,rfl,hg,hh,hc,r⟩
 . exact⟨none,0,by rw[hl],om,om⟩
 . refine⟨some ⟨g,0,none⟩,cap,rfl,hc,fun i hi=>⟨g,rfl,?_⟩⟩;rw[World.ownsRow.cellAt h1 i om];simp[hi]
theorem A5.not{T:TypeId}(h:A5 TE w0 w v L){g:Nat}{cs:Array Value}(hB:Blk w g T cs)(hT:T≠TE):v.ownBlock≠some g:=fun e=>by
 obtain⟨-,h1,-⟩:=h
 rcases h1.2 with ⟨rfl,_⟩ | ⟨g',cap,cur,rfl,_,hh,_⟩
 . cases e
 . simp[Value.ownBlock] at e
   subst e
   have hB':w.heap[g']?=some (.cells cs T (0,0)):=hB
   rw[hB'] at hh
   simp at hh
   exact hT hh.2
theorem A5.set_ne(h:A5 TE w0 w v L){b i:Nat}(hp:v.ownBlock≠some b)(u:Value):A5 TE w0 (w.setCell ⟨b,i,none⟩ u) v L:=by
 obtain⟨h2,h3,h4⟩:=h;refine⟨h2,⟨h3.1,?_⟩,h4⟩;rcases h3.2 with h | ⟨g,cap,cur,rfl,hg,hh,rest⟩
 . exact Or.inl h
 . exact zz159
theorem cc5(hT:SlT TS TE)(ty:TypeId)(m c:Nat)(ad:Addr)(M:List Value)(hO:A5 TE w0 w v L)(hM:M.length=m)(hM1:∀u∈M,u.oneCell'=true)(hnews:∀j x,M[j]?=some x->w.cell? (ad.add j)=some x)(hE:Ext w0 w)(hn:L.length+m<=1000000000000) :
 ∃v' w',(Builtin.append_ #[TS,TS] ty #[v,.slice (some ad) m c]).run Tryz.prog w=.ok v' w'∧A5 TE w0 w' v' (L++M)∧w.grownBy w' v.ownBlock∧Nw v.ownBlock w v'.ownBlock∧Ext w0 w':=by
 obtain⟨i,hi,hz,hs1,hby⟩:=info_parts hT.info;obtain⟨hL1,hL2,-⟩:=hO;have hblk:=hL2.lt;have hLM:∀u∈L++M,u.oneCell'=true:=fun u hu=>by
  rw[List.mem_append] at hu
  rcases hu with hu | hu
  . exact hL1 u hu
  . exact hM1 u hu
 have hlen:(L++M).length=L.length+m:=by rw[List.length_append,hM]
 have h2:=hL2.2;rcases h2 with ⟨rfl,hl⟩ | ⟨g,cap,cur,rfl,hg,hh,hnc,hcm,hcs,htk⟩
 . have hL':L=[]:=List.eq_nil_of_length_eq_zero hl;subst hL';obtain⟨v',w',hrun,r1,r2,-⟩:=run_append_own (P:=Tryz.prog) w w.heap.size TS ty TE i (.slice none 0 0) 1 24 hT.und hi hz hs1 hby rfl om (.slice none 0 0) 0 [] (World.ownsRow_nil _ _ _ _) ad m c M om hnews hM1 (by simp at hn;unfold maxLen;omega) (by simp at hn;omega) (Nat.le_refl _);have r1':=r1.lt;exact⟨v',w',hrun,⟨hLM,by rw[hlen];exact R0 (by simpa using r1) hE.size,om⟩,r2,Or.inr fun k hk=>(r1' k hk).1,hE.grown r2 fun k hk=>by simp[Value.ownBlock] at hk⟩
 . by_cases hroom:L.length+m<=cap
   . obtain⟨w',hrun,r1,r2⟩:=run_append_fits (P:=Tryz.prog) w w0.heap.size TS ty TE i 1 hT.und hi hs1 g L.length cap _ hL2 ad m c M om hnews hM1 hroom;exact⟨_,w',hrun,⟨hLM,by rw[hlen];exact r1,om⟩,r2,Or.inl rfl,hE.grown r2 fun k hk=>by cases hk;exact hg⟩
   . obtain⟨v',w',hrun,r1,r2⟩:=run_append_arg_grows (P:=Tryz.prog) (w:=w) TS ty TE i (.slice none 0 0) 1 24 hT.und hi hz hs1 hby rfl om ⟨g,0,none⟩ L.length cap L om (by
      intro j u hu;have hj:j<L.length:=(List.getElem?_eq_some_iff.1 hu).1;rw[Addr.add_lit,Nat.zero_add,World.ownsRow.cellAt hL2 j om];exact hu) ad m c M om hnews om (by unfold maxLen;omega) om
     have r1':=r1.lt
     exact⟨v',w',hrun,⟨hLM,by rw[hlen];exact R0 r1 hE.size,om⟩,⟨r2.os,r2.tape,r2.output,r2.size,fun k hk _=>r2.block k hk zm⟩,Or.inr fun k hk=>(r1' k hk).1,hE.grown r2 zm⟩
end
section
variable {ops:Array Oper} {rest:List Oper} {o:Oper} {a:Act} {Q:Exit->Act->World->Prop} {TS TE:TypeId}
theorem b25(hT:SlT TS TE)(hg:o.guard=none)(s x:Operand)(hop:o.op=Op.call { callee:=Callee.builtin Builtin.append,args:=#[s,x],argTypes:=#[TS,TS] })
 (w0 W:World) (v:Value) (L:List Value) (y:Value) (hy:y.oneCell'=true) (hO:A5 TE w0 W v L) (hE:Ext w0 W) (hn:L.length<1000000000000) (hs:a.eval s=v) (hx:a.eval x=.slice (some ⟨W.heap.size,0,none⟩) 1 1)
 (hK:∀v' w',A5 TE w0 w' v' (L++[y])->W.grownBy w' v.ownBlock->Nw v.ownBlock W v'.ownBlock->wpList Tryz.prog ops Q rest (a.put o.dst v') w') :
 wpList Tryz.prog ops Q (o :: rest) a (W.alloc (.cells #[y] TE)):=by
 have e:Ext W (W.alloc (.cells #[y] TE)):=(er W).alloc _;obtain⟨v',w',hrun,h1,h2,h3,-⟩:=cc5 hT o.type 1 1 ⟨W.heap.size,0,none⟩ [y] (hO.ext e) rfl (by simpa using hy) (cell_one_new _ _ _) (hE.alloc _) om;refine wpList_plain hg fun K hK'=>?_;unfold Oper.wp;simp[execOp,hop,resolve,invoke,builtin,hs,hx,hrun,Result.andThen];refine hK' _ _ (hK v' w' h1 ⟨h2.os.trans e.os,h2.tape.trans e.tape,h2.output.trans e.output,nle e.size h2.size,fun k hk hne=>?_⟩ ?_)
 . exact zz185
 . rcases h3 with h3 | h3
   . exact Or.inl h3
   . exact Or.inr fun k hk=>nle e.size (h3 k hk)
def V1(w:World)(u:Value)(M:List Value):Prop:=(u=.slice none 0 0∧M=[])∨∃ad c,u=.slice (some ad) M.length c∧∀j x,M[j]?=some x->w.cell? (ad.add j)=some x
theorem A5.cells{w0 w:World}{v:Value}{L:List Value}(h:A5 TE w0 w v L):V1 w v L:=by
 obtain⟨-,h1,-⟩:=h;have h2:=h1.2;rcases h2 with ⟨rfl,hl⟩ | ⟨g,cap,cur,rfl,hg,hh,hc,r⟩
 . exact Or.inl ⟨rfl,List.eq_nil_of_length_eq_zero hl⟩
 . refine Or.inr ⟨⟨g,0,none⟩,cap,rfl,fun j x hx=>?_⟩;have hj:j<L.length:=(List.getElem?_eq_some_iff.1 hx).1;rw[Addr.add_lit,Nat.zero_add,World.ownsRow.cellAt h1 j om];exact hx
theorem c49(hT:SlT TS TE)(ty:TypeId){w0 w:World}{v u:Value}{L M:List Value}(hO:A5 TE w0 w v L)(hI:V1 w u M)(hM1:∀u∈M,u.oneCell'=true)(hE:Ext w0 w)(hn:L.length+M.length<=1000000000000) :
 ∃v' w',(Builtin.append_ #[TS,TS] ty #[v,u]).run Tryz.prog w=.ok v' w'∧A5 TE w0 w' v' (L++M)∧w.grownBy w' v.ownBlock∧Nw v.ownBlock w v'.ownBlock∧Ext w0 w':=by
 rcases hI with ⟨rfl,rfl⟩ | ⟨ad,c,rfl,hc⟩
 . obtain⟨i,hi,hz,hs1,hby⟩:=info_parts hT.info;have hrun:=run_append_owned_none (P:=Tryz.prog) w w0.heap.size TS ty TE i 1 hT.und hi v L.length L hO.2.1;exact⟨v,w,hrun,by simpa using hO,⟨rfl,rfl,rfl,Nat.le_refl _,fun _ _ _=>rfl⟩,Or.inl rfl,hE⟩
 . exact cc5 hT ty M.length c ad M hO rfl hM1 hc hE hn
theorem dm4(hT:SlT TS TE)(hg:o.guard=none)(s x:Operand)(hop:o.op=Op.call { callee:=Callee.builtin Builtin.append,args:=#[s,x],argTypes:=#[TS,TS] })
 (w0 w:World) (v u:Value) (L M:List Value) (hO:A5 TE w0 w v L) (hI:V1 w u M) (hM1:∀u∈M,u.oneCell'=true) (hE:Ext w0 w) (hn:L.length+M.length<=1000000000000) (hs:a.eval s=v) (hx:a.eval x=u)
 (hK:∀v' w',A5 TE w0 w' v' (L++M)->w.grownBy w' v.ownBlock->Nw v.ownBlock w v'.ownBlock->Ext w0 w'->wpList Tryz.prog ops Q rest (a.put o.dst v') w') :
 wpList Tryz.prog ops Q (o :: rest) a w:=by
 obtain⟨v',w',hrun,h1,h3,h4,h2⟩:=c49 hT o.type hO hI hM1 hE hn;refine wpList_plain hg fun K hK'=>?_;unfold Oper.wp;simp[execOp,hop,resolve,invoke,builtin,hs,hx,hrun,Result.andThen];exact hK' _ _ (hK v' w' h1 h3 h4 h2)
theorem b20{K:Act->World->Prop}{E:Prop}{w:World}(hT:SlT TS TE)(hg:o.guard=none)(s x:Operand)(hop:o.op=Op.call { callee:=Callee.builtin Builtin.append,args:=#[s,x],argTypes:=#[TS,TS] })
 (w0:World) (v u:Value) (L M:List Value) (hO:A5 TE w0 w v L) (hI:V1 w u M) (hM1:∀u∈M,u.oneCell'=true) (hE:Ext w0 w) (hn:L.length+M.length<=1000000000000) (hs:a.eval s=v) (hx:a.eval x=u)
 (hK:∀v' w',A5 TE w0 w' v' (L++M)->w.grownBy w' v.ownBlock->Nw v.ownBlock w v'.ownBlock->Ext w0 w'->K (a.put o.dst v') w') :
 if Region.wanted o (yielded ops a.tmps)=true then Oper.wp Tryz.prog o a w K Q else E:=by
 have hw:Region.wanted o (yielded ops a.tmps)=true:=by simp[Region.wanted,hg]
 rw[if_pos hw];obtain⟨v',w',hrun,h1,h3,h4,h2⟩:=c49 hT o.type hO hI hM1 hE hn;unfold Oper.wp;simp[execOp,hop,resolve,invoke,builtin,hs,hx,hrun,Result.andThen];exact hK v' w' h1 h3 h4 h2
end
def N8(w:World)(u:Value)(a:List Nat):Prop:=a.length<=1000∧∃g cap cs,u=.slice (some ⟨g,0,none⟩) a.length cap∧a.length<=cap∧Blk w g 3 cs∧∀i,i<a.length->cs[i]?=some (.int .i64 (d8 a i))
theorem N8.ext{w w':World}{u:Value}{a:List Nat}(h:N8 w u a)(hE:Ext w w'):N8 w' u a:=by
 obtain⟨h0,g,cap,cs,h1,h2,h3,h4⟩:=h;exact⟨h0,g,cap,cs,h1,h2,h3.ext hE,h4⟩
theorem N8.one{w:World}{u:Value}{a:List Nat}(h:N8 w u a):u.oneCell'=true:=by
 obtain⟨h0,g,cap,cs,rfl,-⟩:=h;rfl
theorem N8.ints{w:World}{u:Value}{a:List Nat}(h:N8 w u a):c9 w u (b9 a):=by
 obtain⟨h0,g,cap,cs,rfl,h2,h3,h4⟩:=h;refine⟨_,cap,by rw[j2],by rw[j2];exact h2,by rw[j2];omega,fun i hi=>⟨_,rfl,?_⟩⟩;rw[j2] at hi;rw[Addr.add_lit,Nat.zero_add,H8];exact h3.cell (i:=i) (h4 i hi)
theorem b72{w0 w:World}{u:Value}{a:List Nat}(h:Own 3 w0 w u (b9 a))(h0:0<a.length)(h1:a.length<=1000):N8 w u a:=by
 obtain⟨⟨h2,h3⟩,-⟩:=h;rcases h3 with ⟨hv,hl⟩ | ⟨g,cap,cur,rfl,hg,hh,hnc,hcm,hcs,htk⟩
 . rw[j2] at hl;omega
 . rw[j2] at hnc htk ⊢;refine⟨h1,g,cap,cur,rfl,hnc,hh,fun i hi=>?_⟩;have:(cur.toList.take (a.length*1))[i]?=some (.int .i64 (d8 a i)):=by
    rw[htk,List.getElem?_map,<-H8];have hi':i<(b9 a).length:=(by rw[j2];exact hi);simp[nth,List.getD,hi']
   rw[List.getElem?_take_of_lt om] at this;simpa using this
theorem N8.grown{w0 w w':World}{u v:Value}{a:List Nat}{TE:TypeId}{L:List Value}(h:N8 w u a)(hO:A5 TE w0 w v L)(hT:3≠TE)(hg:w.grownBy w' v.ownBlock):N8 w' u a:=by
 obtain⟨h0,g,cap,cs,h1,h2,h3,h4⟩:=h;exact⟨h0,g,cap,cs,h1,h2,h3.grown hg fun k hk e=>hO.not h3 hT (by rw[hk,e]),h4⟩
theorem N8.other{w:World}{u:Value}{a:List Nat}{b:Nat}{T:TypeId}{cs':Array Value}(h:N8 w u a)(hB:Blk w b T cs')(hT:T≠3)(i:Nat)(x:Value):N8 (w.setCell ⟨b,i,none⟩ x) u a:=by
 obtain⟨h0,g,cap,cs,h1,h2,h3,h4⟩:=h;refine⟨h0,g,cap,cs,h1,h2,h3.other (fun e=>?_) _,h4⟩;have e':g=b:=e;subst e';have hB':w.heap[g]?=some (.cells cs' T (0,0)):=hB;have h3':w.heap[g]?=some (.cells cs 3 (0,0)):=h3;rw[h3'] at hB';simp at hB';exact hT hB'.2.symm
def E6(w0 w:World)(v:Value)(A:List (List Nat)):Prop:=∃L:List Value,L.length=A.length∧A5 26 w0 w v L∧∀i,i<A.length->N8 w (L.getD i (.slice none 0 0)) (A.getD i [])
theorem E6.ext{w0 w w':World}{v:Value}{A:List (List Nat)}(h:E6 w0 w v A)(hE:Ext w w'):E6 w0 w' v A:=by
 obtain⟨L,h1,h2,h3⟩:=h;exact⟨L,h1,h2.ext hE,fun i hi=>(h3 i hi).ext hE⟩
theorem E6.mono{w0 w1 w:World}{v:Value}{A:List (List Nat)}(h:E6 w1 w v A)(hE:Ext w0 w1):E6 w0 w v A:=by
 obtain⟨L,h1,h2,h3⟩:=h;exact⟨L,h1,h2.mono hE,h3⟩
theorem c39{w0 w:World}(hE:Ext w0 w):E6 w0 (w.alloc (.cells #[] 26)) (.slice (some ⟨w.heap.size,0,none⟩) 0 0) []:=⟨[],rfl,bn2 hE,fun i hi=>by simp at hi⟩
theorem E6.blk{w0 w:World}{v:Value}{A:List (List Nat)}(h:E6 w0 w v A):∀k,v.ownBlock=some k->w0.heap.size<=k∧k<w.heap.size:=by
 obtain⟨L,h1,h2,h3⟩:=h;exact h2.blk
theorem E6.not{w0 w:World}{v:Value}{A:List (List Nat)}{T:TypeId}(h:E6 w0 w v A){g:Nat}{cs:Array Value}(hB:Blk w g T cs)(hT:T≠26):v.ownBlock≠some g:=by
 obtain⟨L,h1,h2,h3⟩:=h;exact h2.not hB hT
theorem E6.more{w0 W w':World}{v v' y:Value}{A:List (List Nat)}{a:List Nat}{L:List Value}(h1:L.length=A.length)(h2:A5 26 w0 W v L)(h3:∀i,i<A.length->N8 W (L.getD i (.slice none 0 0)) (A.getD i []))(hy:N8 W y a)(hO:A5 26 w0 w' v' (L++[y]))(hG:W.grownBy w' v.ownBlock):E6 w0 w' v' (A++[a]):=by
 refine⟨L++[y],by simp[h1],hO,fun i hi=>?_⟩;by_cases e:i<A.length
 . have e1:(L++[y]).getD i (.slice none 0 0)=L.getD i (.slice none 0 0):=(by simp[List.getD,List.getElem?_append_left (show i<L.length by omega)]);have e2:(A++[a]).getD i []=A.getD i []:=(by simp[List.getD,List.getElem?_append_left e]);rw[e1,e2];exact (h3 i e).grown h2 (by decide) hG
 . have hi':i=A.length:=(by simp at hi;omega);have e1:(L++[y]).getD i (.slice none 0 0)=y:=(by rw[hi',<-h1];simp[List.getD]);have e2:(A++[a]).getD i []=a:=(by rw[hi'];simp[List.getD]);rw[e1,e2];exact hy.grown h2 (by decide) hG
theorem zz107{P:Prop}(h:P:=by obtain⟨L,h1,h2,h3⟩:=h;obtain⟨ao,c,rfl,hc,hcell⟩:=h2.shape;rw[h1] at hc hcell ⊢;exact⟨ao,c,rfl,hc,fun i hi=>by obtain⟨g,hg,hh⟩:=hcell i hi;exact⟨g,_,hg,hh,h3 i hi⟩⟩):P:=h
theorem E6.shape{w0 w:World}{v:Value}{A:List (List Nat)}(h:E6 w0 w v A):∃(ao:Option Addr) (c:Nat),v=.slice ao A.length c∧A.length<=c∧(∀i,i<A.length->∃g u,ao=some ⟨g,0,none⟩∧w.cell? ⟨g,i,none⟩=some u∧N8 w u (A.getD i [])):=by
 exact zz107
def W6(w:World)(u:Value)(a:List Nat):Prop:=(a=[]∧∃ao c,u=.slice ao 0 c)∨N8 w u a
theorem W6.ext{w w':World}{u:Value}{a:List Nat}(h:W6 w u a)(hE:Ext w w'):W6 w' u a:=by
 rcases h with h | h
 . exact Or.inl h
 . exact Or.inr (h.ext hE)
theorem W6.ints{w:World}{u:Value}{a:List Nat}(h:W6 w u a):c9 w u (b9 a):=by
 rcases h with ⟨rfl,ao,c,rfl⟩ | h
 . exact⟨ao,c,rfl,Nat.zero_le _,by simp[b9],fun i hi=>by simp[b9] at hi⟩
 . exact h.ints
theorem W6.grown{w0 w w':World}{u v:Value}{a:List Nat}{A:List (List Nat)}(h:W6 w u a)(hO:E6 w0 w v A)(hg:w.grownBy w' v.ownBlock):W6 w' u a:=by
 rcases h with h | h
 . exact Or.inl h
 . obtain⟨L,h1,h2,h3⟩:=hO;exact Or.inr (h.grown h2 (by decide) hg)
theorem W6.shape{w:World}{u:Value}{a:List Nat}(h:W6 w u a):∃ao c,u=.slice ao a.length c:=by
 rcases h with ⟨rfl,ao,c,rfl⟩ | ⟨-,g,cap,cs,rfl,-⟩
 . exact⟨ao,c,rfl⟩
 . exact⟨_,cap,rfl⟩
theorem bp1{w w1 w2:World}{o o1:Option Nat}(h:w.grownBy w1 o)(n:Nw o w o1)(k:w1.grownBy w2 o1):w.grownBy w2 o :=
 ⟨k.os.trans h.os,k.tape.trans h.tape,k.output.trans h.output,nle h.size k.size,fun i hi hne=>by
  rw[k.block i (nlt hi h.size) fun e=>?_,h.block i hi hne]
  rcases n with n | n
  . exact hne (by rw[<-n];exact e)
  . have:=n i e.symm;omega⟩
theorem c28{w w1 w2:World}{o:Option Nat}(h:w.grownBy w1 o)(k:Ext w1 w2):w.grownBy w2 o :=
 ⟨k.os.trans h.os,k.tape.trans h.tape,k.output.trans h.output,nle h.size k.size,fun i hi hne=>by
  rw[k.block i (nlt hi h.size),h.block i hi hne]⟩
theorem bf8(w:World)(o:Option Nat):w.grownBy w o:=⟨rfl,rfl,rfl,Nat.le_refl _,fun _ _ _=>rfl⟩
theorem Ext.gr{w w':World}(h:Ext w w')(o:Option Nat):w.grownBy w' o:=⟨h.os,h.tape,h.output,h.size,fun k hk _=>h.block k hk⟩
def cq5(w0 w:World)(vo:Value)(A:List (List Nat))(s:Value)(wx:World):Prop:=E6 w0 wx s A∧w.grownBy wx vo.ownBlock∧Nw vo.ownBlock w s.ownBlock
theorem zz151{P:Prop}(h:P:=by go_wp2_with fail;go_meet;exact⟨rfl,by rw[hc2]⟩):P:=h
theorem dw7(v:Value)(l:List Int)(Hgr:Hid (j1 l=true))(w0:World)(HI:Hid (∀W,Ext w0 W->c9 W v l)) :
 ∀(f:Nat) (X:List Nat) (S m:Nat) (O:List (List Nat)) (vX vo:Value) (w:World),Ext w0 w->W6 w vX X->E6 w0 w vo O->S<2 ^ ord l->S.testBit 0=false->m<=ord l->ord l<cnt S+f->X.length<=cnt S->(∀x∈X,x<ord l)->O.length+(atR l f X S m).length<=48 ->
 Calls Tryz.prog 352 #[.agg #[v],vX,.int .i64 S,.int .i64 m,vo] w fun e w'=>∃vo',e=.returned vo'∧cq5 w0 w vo (O++atR l f X S m) vo' w':=by
 intro f;induction f with
 | zero=>intro X S m O vX vo w hw hX hO hS h0 hm hf;have:=b77 Hgr.out hS;omega
 | succ f ih =>
  intro X S m O vX vo w hw hX hO hS h0 hm hf hXl hXo hK;have hob:=m8 Hgr.out;have hp24:=C4 Hgr.out;have hS24:S<2 ^ 24:=nlt hS hp24;have hcS:=r9 S;obtain⟨aoX,cX,rfl⟩:=hX.shape;obtain⟨wb,hwb⟩:=nq (w.alloc (.cells #[v] 28));have hE0:Ext w wb:=by rw[hwb];exact (er _).alloc _
  have BG:Blk wb w.heap.size 28 #[v]:=by rw[hwb];exact Blk.new _ _ _
  have hb:∀W,Ext wb W->W.cell? ⟨w.heap.size,0,none⟩=some v:=fun W hW=>(BG.ext hW).cell (i:=0) rfl;have hgb:=hw.trans hE0;have hg:∀W,Ext wb W->c9 W v l:=fun W hW=>HI.out W (hgb.trans hW);have HXb:=zh (hX.ext hE0);have HOb:=zh (hO.ext hE0);have HE0:=zh hE0;have Hwb:=zh hwb;have Hih:=zh ih;have HK:=zh hK;clear ih hX hO hwb hE0 hK;have hz:atZ l X<ord l:=P3 l (m9 Hgr.out) _;have hX24:∀x∈X,x<24:=fun x hx=>by have:=hXo x hx;omega
  have cT:=fun W (hW:Ext wb W)=>Y1 v _ l X W (hg W hW) (HXb.out.ext hW).ints Hgr (zh hX24);have htot:=be3 Hgr.out X;have cN:=fun W (hW:Ext wb W)=>W8 v l (tot l X) W (hg W hW) Hgr om;have HV:Hid (atV l X m=if atC l X m then [X++[atZ l X]] else []):=zh rfl;have HC:Hid (atC l X m=((decide (m<=atZ l X)&&(decide (X.length≠0) || decide (atZ l X=0)))&&mnB l (X++[atZ l X]))):=zh rfl;obtain⟨z,hzd⟩:=nq (atZ l X);have hzd2:z=p9 l (tot l X):=hzd;rw[<-hzd] at hz HV HC;simp only[<-hzd2] at cN;have Hz:=zh hzd;obtain⟨t,ht⟩:=nq (tot l X);simp only[<-ht] at cT cN;clear hzd hzd2 ht htot;have hE:=er wb;have hbU:=fun U=>hb _ (d5 wb U);go_in;go_wp2_with fail;rw[<-Hwb.out];(refine wl hE ?_);(repeat (go_big_quiet_step (first | (go_at_call 134;with_reducible exact Calls.lat (cT _ (d5 wb _))) | (go_at_call 202;with_reducible exact Calls.lat (cN _ (d5 wb _))))));(refine zd ?_);(clear hE);(intro W hE);rename World=>w1;have hbu:=hb _ hE;clear hbU;obtain⟨c,hc⟩:=nq ((decide (m<=z)&&(decide (X.length≠0) || decide (z=0))));rw[<-hc] at HC;go_upto_region 2 with fail;go_cut [31] (fun s31 wx=>wx=w1∧s31=.bool c);case first =>
   have hlI:0<=((X.length:Nat):Int):=om;by_cases p1:m<=z
   . have p1I:(m:Int)<=(z:Int):=(by omega);by_cases p2:X.length=0
     . have hXn:X=[]:=List.eq_nil_of_length_eq_zero p2;subst hXn;clear p2;by_cases p3:z=0
       . have hc2:c=true:=(by rw[hc,decide_eq_true p1,decide_eq_true p3];simp);have p3I:(((z:Nat):Int) == 0)=true:=(by rw[p3];rfl);clear p1 p3 hc;exact zz151
       . have hc2:c=false:=(by rw[hc];simp[p3]);have p3I:(((z:Nat):Int) == 0)=false:=(by rw[beq_eq_false_iff_ne];omega);clear p1 p3 hc;exact zz151
     . have p2I:(0:Int)<((X.length:Nat):Int):=(by omega);have hc2:c=true:=(by rw[hc,decide_eq_true p1,decide_eq_true (show X.length≠0 from p2)];rfl);have hXn:X≠[]:=fun e=>p2 (by rw[e];rfl);clear p1 hc;exact zz151
   . have p1I:¬(m:Int)<=(z:Int):=(by omega);have hc2:c=false:=(by rw[hc];simp[p1]);clear p1 hc;exact zz151
  case rest =>
   obtain⟨rfl,rfl⟩:=hcut;clear hc;go_upto_if 31 with fail;have hExt1:Ext wb wc:=hE;have hlX:(b9 X).length<=17592186044416:=(by rw[j2];omega);have hlX2:(b9 X).length<17592186044416:=(by rw[j2];omega);have hIX:=(HXb.out.ext (hE.trans ((er wc).alloc (.cells #[] 3)))).ints;have hOe:Own 3 wc (wc.alloc (.cells #[] 3)) (.slice (some ⟨wc.heap.size,0,none⟩) 0 0) []:=m7 om (er wc) [] rfl;have hEe:=(er wc).alloc (.cells #[] 3);have hmY:∀x∈X++[z],x<ord l:=fun x hx=>by
    rw[List.mem_append,List.mem_singleton] at hx
    rcases hx with hx | rfl
    . exact hXo x hx
    . exact hz
   have cM:=fun W vy (hW:Ext wb W) (hy:c9 W vy (b9 (X++[z])))=>c55 v vy l (X++[z]) W (hg W hW) hy Hgr hmY (by simp;omega);obtain⟨L,hL1,hL2,hL3⟩:=HOb.out.ext hE;have hLn:L.length<1000000000000:=(by rw[hL1];have:=HK.out;omega);have HL1:=zh hL1;have HL3:=zh hL3;have Hsn:=zh (D5 X z);have hXl2:(X++[z]).length<=1000:=(by simp;omega);clear hL1 hL3;go_cut [4] (fun s4 wx=>cq5 w0 wc vo (O++atV l X m) s4 wx);case first =>
    cases c
    . have Hv:Hid (atV l X m=[]):=zh (by rw[HV.out,HC.out];rfl);go_wp2_with fail;go_meet;exact⟨by rw[Hv.out,List.append_nil];exact HOb.out.ext hExt1,bf8 _ _,Nw.refl _ _⟩
    . cases hmn:mnB l (X++[z])
      . have Hv:Hid (atV l X m=[]):=zh (by rw[HV.out,HC.out,hmn];rfl);rw[hmn] at cM;clear hmn;go_wp2_with (first | (at_builtin;refine I2 slI rfl _ _ rfl wc _ _ _ _ _ hOe hIX hEe (by simpa using hlX) rfl rfl ?_;intro v1 wA hO1 hE1;rw[List.nil_append] at hO1) | (at_builtin;refine A6 slI rfl _ _ rfl wc _ _ _ _ hO1 hE1 hlX2 rfl rfl ?_;intro v2 wB hO2 hE2;rw[<-Hsn.out] at hO2;obtain⟨ao2,c2,rfl,-⟩:=hO2.shape;have hE2b:=hE.trans hE2;have hb2:=hb _ hE2b) | (go_at_call 246;refine (cM _ _ hE2b hO2.ints).mono ?_;rintro e w4 ⟨rfl,hE4⟩));go_meet;exact⟨by rw[Hv.out,List.append_nil];exact HOb.out.ext (hE2b.trans hE4),(hE2.trans hE4).gr _,Nw.refl _ _⟩
      . have Hv:Hid (atV l X m=[X++[z]]):=zh (by rw[HV.out,HC.out,hmn];rfl);rw[hmn] at cM;clear hmn;go_wp2_with (first | (at_builtin;refine I2 slI rfl _ _ rfl wc _ _ _ _ _ hOe hIX hEe (by simpa using hlX) rfl rfl ?_;intro v1 wA hO1 hE1;rw[List.nil_append] at hO1) | (at_builtin;refine A6 slI rfl _ _ rfl wc _ _ _ _ hO1 hE1 hlX2 rfl rfl ?_;intro v2 wB hO2 hE2;rw[<-Hsn.out] at hO2;obtain⟨ao2,c2,rfl,-⟩:=hO2.shape;have hE2b:=hE.trans hE2;have hb2:=hb _ hE2b) | (go_at_call 246;refine (cM _ _ hE2b hO2.ints).mono ?_;rintro e w4 ⟨rfl,hE4⟩;have hE24:=hE2.trans hE4;have hO4:=hL2.ext hE24;have hX4:=hgb.trans (hE2b.trans hE4);have hR4:=(b72 hO2 zm hXl2).ext hE4;have h14:=hR4.one) | (at_builtin;refine b25 slV rfl _ _ rfl w0 _ _ L _ h14 hO4 hX4 hLn rfl rfl ?_;intro v5 w5 hO5 hG5 hN5));go_meet;exact⟨by rw[Hv.out];exact E6.more HL1.out hO4 (fun i hi=>(HL3.out i hi).ext hE24) hR4 hO5 hG5,c68 hE24 hG5,(Nw.refl _ _).trans hE24.size hN5⟩
   case rest =>
    obtain⟨hA1,hA2,hA3⟩:=hcut;have HA0:Hid (cq5 w0 wb vo (O++atV l X m) u4 wc):=zh ⟨hA1,c68 hExt1 hA2,(Nw.refl _ _).trans hExt1.size hA3⟩;have Hst:=zh (c07 l f X S m (max 1 m) (Nat.le_refl _));have Hend:=zh (dn2 l f X S m);have hmx:max 1 m<=ord l:=om;have hmxI:max (1:Int) (m:Int)=((max 1 m:Nat):Int):=om;obtain⟨m1,hm1⟩:=nq (max 1 m);rw[<-hm1] at Hst hmx hmxI;have Hm1:=zh hm1;have hneG:vo.ownBlock≠some w.heap.size:=HOb.out.not BG (by decide);have HneG:=zh hneG;clear hA1 hA2 hA3 hm1 hneG hIX hOe hEe cM hL2 cT cN;go_upto_region 6 with fail;go_cut [13] (fun s13 wx=>wx=wc∧s13=.int .i64 (m1:Int));case first =>
     go_wp2_with fail;all_goals
      go_meet
      refine⟨rfl,?_⟩
      have:=Hm1.out
      congr 1
      omega
    case rest =>
     obtain⟨rfl,rfl⟩:=hcut;clear hmxI hExt1 hE hbu;go_wp2_with fail;go_loopw [4,13] (fun so sx wr=>∃k:Nat,m1<=k∧k<=ord l∧sx=.int .i64 k∧cq5 w0 wb vo (O++atK l f X S m k) so wr) (fun _ sx _=>ord l - (intOf sx).toNat);(case atStart=>exact⟨m1,Nat.le_refl _,hmx,rfl,by rw[Hst.out];exact HA0.out⟩);case round =>
      clear HA0;rename World=>wr;obtain⟨k,hk1,hk2,rfl,hA1,hA2,hA3⟩:=hrel;have hEr:=hgb.grown hA2 (fun g hg=>(HOb.out.blk g hg).1);have BGr:=BG.grown hA2 (fun g hg e=>HneG.out (by rw[hg,e]));have HXr:=zh (HXb.out.grown HOb.out hA2);have hgr:∀W,Ext wr W->c9 W v l:=fun W hW=>HI.out W (hEr.trans hW);have kG:∀W,Ext wr W->W.cell? ⟨w.heap.size,0,none⟩=some v:=fun W hW=>(BGr.ext hW).cell (i:=0) rfl;have kr:=kG wr (er wr);have cO:=o5 v l wr (hgr _ (er wr)) Hgr;have HA1:=zh hA1;have HA2:=zh hA2;have HA3:=zh hA3;clear hA1 hA2 hA3;by_cases hlt:k<ord l
      . have hltI:(k:Int)<(ord l:Int):=(by omega);have hk24:k<24:=om;have hN:=bj0 Hgr.out hS hlt;have hNc:=b71 Hgr.out hS h0 hlt;have hN24:nxS l S k<2 ^ 24:=nlt hN hp24;have hsh:=G0 Hgr.out S k;have q1:=p6 (n:=k) om;have q2:ior (S:Int) (j6 l S k:Int)=((S ||| j6 l S k:Nat):Int):=M4 om om;have q3:ior ((S ||| j6 l S k:Nat):Int) ((pw k:Nat):Int)=((nxS l S k:Nat):Int):=F6 (Nat.or_lt_two_pow hS24 hsh) hk24;have Hno:=zh (fun h=>d57 (l:=l) (f:=f) (X:=X) (S:=S) (m:=m) (k:=k) h);have Hye:=zh (fun h=>cq8 (l:=l) (f:=f) (X:=X) (S:=S) (m:=m) (k:=k) (by rw[<-Hm1.out];exact hk1) h);have Hmono:=zh (fun d=>bu2 l f X S m (k+1) d);obtain⟨N,hNd⟩:=nq (nxS l S k);rw[<-hNd] at hN hNc hN24 q3 Hno Hye;have q4:=Q6 (a:=N) om;have cS:=fun W (hW:Ext wr W)=>F5 v l S k W (hgr _ hW) Hgr hS24 hk24;clear hNd;go_wp2_with (go_at_call 43;refine cO.mono ?_;rintro e1 w1 ⟨rfl,hE1⟩);have hbx:=fun U=>kG _ (hE1.trans (d5 w1 U));have hE:=er w1;(refine wl hE ?_);(repeat (go_big_quiet_step (first | (go_at_call 166;exact Calls.lat (cS _ (hE1.trans (d5 w1 _)))))));(refine zd ?_);(clear hE);(intro W hE);rename World=>w2;have hE2:=hE1.trans hE;clear hbx cS hE;cases ht:N.testBit 0
        . have hbit:(((N % 2:Nat):Int) == 0)=true:=(by rw[cr1,ht];rfl);have hbit2:((N:Int) % 2 == 0)=true:=hbit;have Hy2:=zh (Hye.out ht);have hmX:∀x∈X++[k],x<ord l:=fun y hy=>by
           rw[List.mem_append,List.mem_singleton] at hy
           rcases hy with hy | rfl
           . exact hXo y hy
           . exact hlt
          have hcR:∀W vN,Ext w2 W->W6 W vN (X++[k])->Calls Tryz.prog 352 #[.agg #[v],vN,.int .i64 N,.int .i64 k,u4] W fun e w'=>∃vo',e=.returned vo'∧cq5 w0 W u4 (O++atK l f X S m (k+1)) vo' w':=fun W vN hW hI=>by
           have q:=Hih.out (X++[k]) N k (O++atK l f X S m k) vN u4 W (hEr.trans (hE2.trans hW)) hI (HA1.out.ext (hE2.trans hW)) hN ht om om (by simp;omega) hmX (by
            have h1:=HK.out;have h2:=Hmono.out (ord l - (k+1));rw[show k+1+(ord l - (k+1))=ord l by omega,<-Hend.out,Hy2.out] at h2;rw[List.length_append] at h2 ⊢;omega)
           rw[List.append_assoc,<-Hy2.out] at q
           exact q
          have HXw:=zh (fun W (hW:Ext w2 W)=>(HXr.out.ext (hE2.trans hW)).ints);have hln:(b9 X).length+[(k:Int)].length<=17592186044416:=(by rw[j2];simp;omega);have hb2:=fun W (hW:Ext w2 W)=>kG W (hE2.trans hW);have BG2:=BGr.ext hE2;have hneS:u4.ownBlock≠some w.heap.size:=HA1.out.not BGr (by decide);have HneS:=zh hneS;have Hcl:=zh (D5 X k);have hXk:(X++[k]).length<=1000:=(by simp;omega);clear ht hneS hmX;have hE:=er w2;go_wp2_with fail;(first | (go_region_held3 (fun W=>W.cell? ⟨w.heap.size,0,none⟩=some v) (first | exact hG5 | exact hb2 _ xr) (first | (go_at_call 352;have hDi:=J3.own hOD (er _);rw[<-Hcl.out] at hDi;have hDr:=b72 hDi zm hXk;have hRE:W6 wD vD (X++[k]):=Or.inr hDr;have hCL:=hcR wD vD hXD hRE;(with_reducible refine Calls.mono hCL ?_);rintro eF wF ⟨vF,rfl,hAF⟩;have hG5:=((BG2.ext hXD).grown hAF.2.1 (fun g hg e=>HneS.out (by rw[hg,e]))).cell (i:=0) (v:=v) rfl) | (have hOq:=hOC;refine q9 slI rfl _ _ rfl w2 w2 _ _ (b9 X) [(k:Int)] (Or.inr (by first | exact hOC | exact hOC.alloc _ | exact (hOC.alloc _).drew)) (Blk.ints1 (T:=3) zq1) xr hln rfl rfl ?_;intro vD wD hOD hXD hTD) | (refine P0 slI rfl _ _ rfl _ _ (b9 X) rfl rfl zq0 (HXw.out _ xr) w2 (by first | exact Nat.le_refl _ | omega | (simp;omega)) xr ?_;intro aoC cC wC hOC hZC hEC;have hXC:=Ext.trans (a:=w2) xr hEC))) | (fail "the region"));all_goals
           have hFin:cq5 w0 w2 u4 (O++atK l f X S m (k+1)) vF wF:=⟨hAF.1,c68 hXD hAF.2.1,(Nw.refl _ _).trans (Ext.size hXD) hAF.2.2⟩
           obtain⟨hB1,hB2,hB3⟩:=hFin
           go_wp2_with fail
           go_roundw
           case rel=>exact⟨k+1,om,om,zg,hB1,bp1 HA2.out HA3.out (c68 hE2 hB2),HA3.out.trans HA2.out.size ((Nw.refl _ _).trans hE2.size hB3)⟩
           case measure=>exact zm1
        . have hbit:(((N % 2:Nat):Int) == 0)=false:=(by rw[cr1,ht];rfl);have hbit2:((N:Int) % 2 == 0)=false:=hbit;have Hn:=zh (Hno.out ht);clear ht;go_wp2_with fail;go_roundw;(case rel=>exact⟨k+1,om,om,zg,by rw[Hn.out];exact⟨HA1.out.ext hE2,c28 HA2.out hE2,HA3.out⟩⟩);case measure=>exact zm1
      . have hltI:¬(k:Int)<(ord l:Int):=(by omega);have hkl:k=ord l:=om;have Hn:=zh (show atR l (f+1) X S m=atK l f X S m k by rw[Hend.out,hkl]);clear hkl;go_wp2_with (go_at_call 43;refine cO.mono ?_;rintro e1 w1 ⟨rfl,hE1⟩);go_ret;exact⟨_,rfl,by rw[Hn.out];exact HA1.out.ext hE1,c68 HE0.out (c28 HA2.out hE1),(Nw.refl _ _).trans HE0.out.size HA3.out⟩
theorem bg8(L:List Nat)(k:Nat)(h:k<L.length):L.drop k=d8 L k :: L.drop (k+1):=by
 rw[List.drop_eq_getElem_cons h];simp[d8,List.getD,h]
theorem cv9{a b:List Nat}{k:Nat}(ha:k<a.length)(hb:k<b.length)(h:d8 a k=d8 b k):I1 (a.drop k) (b.drop k)=I1 (a.drop (k+1)) (b.drop (k+1)):=by
 rw[bg8 a k ha,bg8 b k hb,h];conv=>lhs;unfold I1
 simp
theorem do2{a b:List Nat}{k:Nat}(ha:k<a.length)(hb:k<b.length)(h:d8 a k<d8 b k):I1 (a.drop k) (b.drop k) = -1:=by
 rw[bg8 a k ha,bg8 b k hb];unfold I1;rw[if_pos h]
theorem do1{a b:List Nat}{k:Nat}(ha:k<a.length)(hb:k<b.length)(h:d8 b k<d8 a k):I1 (a.drop k) (b.drop k)=1:=by
 rw[bg8 a k ha,bg8 b k hb];unfold I1;rw[if_neg om,if_pos h]
theorem d68{a b:List Nat}{k:Nat}(ha:a.length<=k)(hb:b.length<=k):I1 (a.drop k) (b.drop k)=0:=by
 rw[List.drop_eq_nil_of_le ha,List.drop_eq_nil_of_le hb];rfl
theorem cr3(a b:Int)(w:World) :
 Calls Tryz.prog 351 #[.int .i64 a,.int .i64 b] w fun e w'=>e=.returned (.int .i64 (if a<b then -1 else if b<a then 1 else 0))∧w=w':=by
 have hn:∀(x:Int) (W:World),Calls Tryz.prog 349 #[.int .i64 x] W fun e w'=>e=.returned (.bool false)∧W=w':=fun x W=>by
  go_in
  go_wp2_with fail
  go_ret
  exact⟨zm,rfl⟩
 by_cases h1:a<b
 . rw[if_pos h1];exact zz59
 . by_cases h2:b<a
   . rw[if_neg h1,if_pos h2];exact zz59
   . rw[if_neg h1,if_neg h2];exact zz59
theorem zz175{P:Prop}(h:P:=by go_wp2_with (go_at_call 351;refine cC.mono ?_;rintro e w' ⟨rfl,rfl⟩);go_ret;exact⟨o7 Hn.out.symm,rfl⟩):P:=h
theorem ci9(u1 u2:Value)(a b:List Nat)(w:World)(h1:c9 w u1 (b9 a))(h2:c9 w u2 (b9 b))(hl:a.length=b.length) :
 Calls Tryz.prog 310 #[u1,u2] w fun e w'=>e=.returned (.int .i64 (I1 a b))∧w=w':=by
 obtain⟨ao1,c1,adr1,rfl,hadr1,hcell1⟩:=h1.nats;obtain⟨ao2,c2,adr2,rfl,hadr2,hcell2⟩:=h2.nats;have hix1:=j3 (c:=c1) elI szI hadr1;have hix2:=j3 (c:=c2) elI szI hadr2;have hlen:a.length<=17592186044416:=by obtain⟨_,_,_,_,h',_⟩:=h1;simpa[j2] using h'
 have HL:=zh hl;clear hadr1 hadr2 h1 h2 hl;go_in;go_wp2_with fail;go_loop [11] (fun i=>∃k:Nat,k<=a.length∧i=.int .i64 k∧Hid (I1 a b=I1 (a.drop k) (b.drop k))) (fun i=>a.length - (intOf i).toNat);case atStart=>exact⟨0,om,rfl,zh rfl⟩
 case round =>
  obtain⟨k,hk,rfl,H⟩:=hrel;by_cases hlt:k<a.length
  . have hb:k<b.length:=(by have:=HL.out;omega);have hltI:(k:Int)<(a.length:Int):=om;have hbI:¬(b.length:Int)<=(k:Int):=om;have hc1:=hcell1 k w hlt (er _);have hc2:=hcell2 k w hb (er _);have cC:=cr3 (d8 a k) (d8 b k) w;by_cases q1:d8 a k<d8 b k
    . have Hn:Hid (I1 a b = -1):=zh (by rw[H.out,do2 hlt hb q1]);rw[if_pos om] at cC;clear q1;exact zz175
    . by_cases q2:d8 b k<d8 a k
      . have Hn:Hid (I1 a b=1):=zh (by rw[H.out,do1 hlt hb q2]);rw[if_neg om,if_pos om] at cC;clear q1 q2;exact zz175
      . have Hn:Hid (I1 a b=I1 (a.drop (k+1)) (b.drop (k+1))):=zh (by rw[H.out,cv9 hlt hb om]);rw[if_neg om,if_neg om] at cC;clear q1 q2;go_wp2_with (go_at_call 351;refine cC.mono ?_;rintro e w' ⟨rfl,rfl⟩);go_round;(case rel=>exact⟨k+1,om,zg,Hn⟩);case measure=>exact zm1
  . have hkl:k=a.length:=(by omega);have Hn:Hid (I1 a b=0):=zh (by rw[H.out,d68 om (by have:=HL.out;omega)]);have hltI:¬(k:Int)<(a.length:Int):=om;have hlq:¬(a.length:Int)<(b.length:Int):=(by have:=HL.out;omega);clear hkl;go_wp2_with fail;go_ret;exact⟨o7 Hn.out.symm,rfl⟩
theorem dj2(u1 u2:Value)(a b:List Nat)(w:World)(h1:c9 w u1 (b9 a))(h2:c9 w u2 (b9 b)) :
 Calls Tryz.prog 309 #[u1,u2] w fun e w'=>e=.returned (.int .i64 (L7 a b))∧w=w':=by
 have hl1:a.length<=17592186044416:=by obtain⟨_,_,_,_,h',_⟩:=h1;simpa[j2] using h'
 have hl2:b.length<=17592186044416:=by obtain⟨_,_,_,_,h',_⟩:=h2;simpa[j2] using h'
 have cC:=fun h=>ci9 u1 u2 a b w h1 h2 h;obtain⟨ao1,c1,adr1,rfl,-,-⟩:=h1.nats;obtain⟨ao2,c2,adr2,rfl,-,-⟩:=h2.nats;clear h1 h2;by_cases hl:a.length=b.length
 . have Hv:Hid (L7 a b=I1 a b):=zh (by unfold L7;rw[if_pos hl]);have cD:=cC hl;have hq:(((a.length:Nat):Int) != ((b.length:Nat):Int))=false:=(by rw[hl];simp);clear hl cC;go_in;go_wp2_with (go_at_call 310;refine cD.mono ?_;rintro e w' ⟨rfl,rfl⟩);go_ret;exact⟨o7 Hv.out.symm,rfl⟩
 . have Hv:Hid (L7 a b=(a.length:Int) - (b.length:Int)):=zh (by unfold L7;rw[if_neg hl]);have hq:(((a.length:Nat):Int) != ((b.length:Nat):Int))=true:=(by rw[bne_iff_ne];omega);clear hl cC;go_in;go_wp2_with fail;go_ret;exact⟨o7 Hv.out.symm,rfl⟩
theorem dk9(u1 u2:Value)(a b:List Nat)(w:World)(h1:c9 w u1 (b9 a))(h2:c9 w u2 (b9 b)) :
 Calls Tryz.prog 353 #[u1,u2] w fun e w'=>e=.returned (.bool (decide (L7 a b<0)))∧Ext w w':=by
 obtain⟨ao1,c1,adr1,rfl,hadr1,hcell1⟩:=h1.nats;obtain⟨ao2,c2,adr2,rfl,hadr2,hcell2⟩:=h2.nats;have hix1:=j3 (c:=c1) elI szI hadr1;have hix2:=j3 (c:=c2) elI szI hadr2;have hlen:a.length<=17592186044416:=by obtain⟨_,_,_,_,h',_⟩:=h1;simpa[j2] using h'
 clear hadr1 hadr2 h1 h2;have hE:=er w;by_cases hl:a.length=b.length
 . have Hv:Hid (L7 a b=I1 a b):=zh (by unfold L7;rw[if_pos hl]);have hq:(((a.length:Nat):Int) != ((b.length:Nat):Int))=false:=(by rw[hl];simp);have HL:=zh hl;clear hl;go_in;go_wp2_with fail;go_loopw [5] (fun i wr=>∃k:Nat,k<=a.length∧i=.int .i64 k∧Hid (I1 a b=I1 (a.drop k) (b.drop k))∧Ext w wr) (fun i _=>a.length - (intOf i).toNat);(case atStart=>exact⟨0,om,rfl,zh rfl,hE⟩);case round =>
    clear hE;obtain⟨k,hk,rfl,H,hE⟩:=hrel;by_cases hlt:k<a.length
    . have hb:k<b.length:=(by have:=HL.out;omega);have hltI:(k:Int)<(a.length:Int):=om;have hc1:=fun U=>hcell1 k _ hlt (hE.trans (d5 wr U));have hc2:=fun U=>hcell2 k _ hb (hE.trans (d5 wr U));have Hse:=zh (fun h=>cv9 hlt hb h);have Hlt:=zh (fun h=>do2 hlt hb h);have Hgt:=zh (fun h=>do1 hlt hb h);obtain⟨y1,hy1⟩:=nq (d8 a k);obtain⟨y2,hy2⟩:=nq (d8 b k);rw[<-hy1,<-hy2] at Hse Hlt Hgt;have K1:Hid (∀W,Ext w W->W.cell? (adr1 k)=some (.int .i64 (y1:Int))):=zh (fun W hW=>by rw[hy1];exact hcell1 k W hlt hW);have K2:Hid (∀W,Ext w W->W.cell? (adr2 k)=some (.int .i64 (y2:Int))):=zh (fun W hW=>by rw[hy2];exact hcell2 k W hb hW);simp only[<-hy1] at hc1;simp only[<-hy2] at hc2;clear hy1 hy2;have hEb:=hE;clear hE;have hE:=er wr;by_cases q0:y1=y2
      . have qI:((y1:Int) != (y2:Int))=false:=(by rw[q0];simp);have Hn:Hid (I1 a b=I1 (a.drop (k+1)) (b.drop (k+1))):=zh (by rw[H.out,Hse.out q0]);clear q0;go_wp2_with fail;(refine wl hE ?_);(repeat (go_big_quiet_step (first | (fail "no call"))));(refine zd ?_);(clear hE);(intro W hE);go_wp2_with fail;go_roundw;(case rel=>exact⟨k+1,om,zg,Hn,hEb.trans hE⟩);case measure=>exact zm1
      . have qI:((y1:Int) != (y2:Int))=true:=(by rw[bne_iff_ne];omega);by_cases q1:y1<y2
        . have Hn:Hid (decide (L7 a b<0)=true):=zh (by rw[Hv.out,H.out,Hlt.out q1];rfl);have q1I:(y1:Int)<(y2:Int):=om;clear q0 q1;go_wp2_with fail;(refine wl hE ?_);(repeat (go_big_quiet_step (first | (fail "no call"))));(refine zd ?_);(clear hE);(intro W hE);have hE2:=hEb.trans hE;rename World=>w5;replace hc1:=fun U=>K1.out _ (hE2.trans (d5 w5 U));replace hc2:=fun U=>K2.out _ (hE2.trans (d5 w5 U));clear hE;have hE:=er w5;go_wp2_with fail;(refine wl hE ?_);(repeat (go_big_quiet_step (first | (fail "no call"))));(refine zd ?_);(clear hE);(intro W hE);go_wp2_with fail;go_ret;exact⟨j5 Hn.out.symm,hE2.trans hE⟩
        . have Hn:Hid (decide (L7 a b<0)=false):=zh (by rw[Hv.out,H.out,Hgt.out om];rfl);have q1I:¬(y1:Int)<(y2:Int):=om;clear q0 q1;go_wp2_with fail;(refine wl hE ?_);(repeat (go_big_quiet_step (first | (fail "no call"))));(refine zd ?_);(clear hE);(intro W hE);have hE2:=hEb.trans hE;rename World=>w5;replace hc1:=fun U=>K1.out _ (hE2.trans (d5 w5 U));replace hc2:=fun U=>K2.out _ (hE2.trans (d5 w5 U));clear hE;have hE:=er w5;go_wp2_with fail;(refine wl hE ?_);(repeat (go_big_quiet_step (first | (fail "no call"))));(refine zd ?_);(clear hE);(intro W hE);go_wp2_with fail;go_ret;exact⟨j5 (by first | exact Hn.out.symm | (rw[Hn.out];exact decide_eq_false om)),hE2.trans hE⟩
    . have hkl:k=a.length:=(by omega);have Hn:Hid (decide (L7 a b<0)=false):=zh (by rw[Hv.out,H.out,d68 om (by have:=HL.out;omega)];rfl);have hltI:¬(k:Int)<(a.length:Int):=om;clear hkl;go_wp2_with fail;go_ret;exact⟨j5 Hn.out.symm,hE⟩
 . have hq:(((a.length:Nat):Int) != ((b.length:Nat):Int))=true:=(by rw[bne_iff_ne];omega);have Hv:Hid (decide (L7 a b<0)=decide (((a.length:Nat):Int)<((b.length:Nat):Int))):=zh (by
    unfold L7;rw[if_neg hl];rw[Bool.eq_iff_iff,decide_eq_true_iff,decide_eq_true_iff];omega)
   clear hl;obtain⟨d,hd⟩:=nq (decide (L7 a b<0));go_in;go_wp2_with fail;go_ret;exact⟨j5 (by rw[Hv.out];simp),hE⟩
theorem A5.alloc{TE:TypeId}{w0 w:World}{v:Value}{L:List Value}(h:A5 TE w0 w v L)(o:Obj):A5 TE w0 (w.alloc o) v L:=h.ext ((er w).alloc o)
theorem A5.drew{TE:TypeId}{w0 w:World}{v:Value}{L:List Value}(h:A5 TE w0 w v L):A5 TE w0 w.drew v L:=h.ext ((er w).drew)
theorem j37{TE:TypeId}{w0 w:World}{g:Nat}(hB:Blk w g TE #[])(h0:w0.heap.size<=g):A5 TE w0 w (.slice (some ⟨g,0,none⟩) 0 0) []:=by
 have hB':w.heap[g]?=some (.cells #[] TE (0,0)):=hB;exact⟨zm,⟨zm,Or.inr ⟨g,0,#[],rfl,h0,hB',Nat.le_refl _,Nat.zero_le _,zm,zm⟩⟩,zm⟩
theorem cb3{TE:TypeId}{w:World}{g:Nat}{y:Value}(hB:Blk w g TE #[y]):V1 w (.slice (some ⟨g,0,none⟩) 1 1) [y]:=by
 refine Or.inr ⟨⟨g,0,none⟩,1,rfl,fun j x hx=>?_⟩;have hj:j<1:=by have:=(List.getElem?_eq_some_iff.1 hx).1;simpa using this
 have e0:j=0:=om;subst e0;rw[Addr.add_lit,Nat.zero_add];exact hB.cell (i:=0) (by simpa using hx)
theorem V1.ext{w w':World}{u:Value}{M:List Value}(h:V1 w u M)(hE:Ext w w'):V1 w' u M:=by
 rcases h with h | ⟨ad,c,rfl,hc⟩
 . exact Or.inl h
 . exact Or.inr ⟨ad,c,rfl,fun j x hx=>hE.cell (hc j x hx)⟩
theorem ck6{w:World}{ao:Option Addr}{n c:Nat}{M:List Value}(h:V1 w (.slice ao n c) M){k:Nat}(hk:k<=M.length)(hn:M.length=n):V1 w (.slice ao k c) (M.take k):=by
 have hl:(M.take k).length=k:=by rw[List.length_take];omega
 rcases h with ⟨hv,rfl⟩ | ⟨ad,c',hv,hc⟩
 . simp only[Value.slice.injEq] at hv;obtain⟨rfl,-,rfl⟩:=hv;have:k=0:=(by simpa using hk);subst this;exact Or.inl ⟨rfl,zm⟩
 . simp only[Value.slice.injEq] at hv;obtain⟨rfl,-,rfl⟩:=hv;refine Or.inr ⟨ad,c,by rw[hl],fun j x hx=>hc j x ?_⟩;have hj:j<k:=(by have:=(List.getElem?_eq_some_iff.1 hx).1;omega);rwa [List.getElem?_take_of_lt hj] at hx
theorem ck5{w:World}{ao:Option Addr}{n c:Nat}{M:List Value}(h:V1 w (.slice ao n c) M){k:Nat}(hk:k<=M.length)(hn:M.length=n)(hc0:n<=c):V1 w (bg4 ao n c k) (M.drop k):=by
 have hl:(M.drop k).length=n - k:=by rw[List.length_drop];omega
 rcases h with ⟨hv,rfl⟩ | ⟨ad,c',hv,hc⟩
 . simp only[Value.slice.injEq] at hv;obtain⟨rfl,rfl,rfl⟩:=hv;refine Or.inl ⟨?_,zm⟩;unfold bg4;split<;>simp
 . simp only[Value.slice.injEq] at hv;obtain⟨rfl,-,rfl⟩:=hv;unfold bg4;by_cases e:c=k
   . rw[if_pos e];refine Or.inr ⟨ad,c - k,by rw[hl],fun j x hx=>?_⟩;have:=(List.getElem?_eq_some_iff.1 hx).1;omega
   . rw[if_neg e];refine Or.inr ⟨ad.add k,c - k,by rw[hl];rfl,fun j x hx=>?_⟩;rw[show (ad.add k).add j=ad.add (k+j) by unfold Addr.add;by_cases h1:k=0<;>by_cases h2:j=0<;>simp[h1,h2,Nat.add_assoc]];exact hc _ x (by rwa [List.getElem?_drop] at hx)
theorem b84{T:TypeId}(hT:Tryz.prog.underlying T=some (.slice (Tryz.prog.elem T)))(hs:∀w,(Go.sizeOf (Tryz.prog.elem T)).run Tryz.prog w=.ok 1 w)(g n c:Nat):∀(i:Nat) W,i<n->(Instr.indexAt T (.slice (some ⟨g,0,none⟩) n c) (.int .i64 (i:Int))).run Tryz.prog W=.ok (.pointer (some ⟨g,i,none⟩)) W:=fun i W hi=>by
 rw[run_indexAt_slice (h:=hT),if_pos om,hs]
 exact zz71
section
variable {ops:Array Oper} {rest:List Oper} {o:Oper} {a:Act} {Q:Exit->Act->World->Prop} {TS TE:TypeId}
theorem cp2{K:Act->World->Prop}{E:Prop}{w:World}(hT:SlT TS TE)(hg:o.guard=none)(s x:Operand)(hop:o.op=Op.call { callee:=Callee.builtin Builtin.append,args:=#[s,x],argTypes:=#[TS,TS] })
 (g:Nat) (u:Value) (M:List Value) (hs:a.eval s=.slice (some ⟨g,0,none⟩) 0 0) (hx:a.eval x=u) (hB:Blk w g TE #[]) (hI:V1 w u M) (hM1:∀u∈M,u.oneCell'=true) (w0:World) (h0:w0.heap.size<=g) (hE:Ext w0 w) (hn:M.length<=1000000000000)
 (hK:∀v' w',A5 TE w0 w' v' M->Ext w0 w'->w.grownBy w' (some g)->K (a.put o.dst v') w') :
 if Region.wanted o (yielded ops a.tmps)=true then Oper.wp Tryz.prog o a w K Q else E :=
 b20 hT hg s x hop w0 _ u [] M (j37 hB h0) hI hM1 hE (by simpa using hn) hs hx fun v' w' h1 h3 _ h2=>hK v' w' (by simpa using h1) h2 h3
end
def Q3(w:World)(L:List Value)(A:List (List Nat)):Prop:=L.length=A.length∧∀i,i<A.length->N8 w (L.getD i (.slice none 0 0)) (A.getD i [])
theorem Q3.ext{w w':World}{L:List Value}{A:List (List Nat)}(h:Q3 w L A)(hE:Ext w w'):Q3 w' L A:=⟨h.1,fun i hi=>(h.2 i hi).ext hE⟩
theorem Q3.one{w:World}{u:Value}{a:List Nat}(h:N8 w u a):Q3 w [u] [a]:=⟨rfl,fun i hi=>by
 have:i=0:=by simp at hi;omega
 subst this;exact h⟩
theorem Q3.append{w:World}{L M:List Value}{A B:List (List Nat)}(h:Q3 w L A)(k:Q3 w M B):Q3 w (L++M) (A++B):=by
 refine⟨by rw[List.length_append,List.length_append,h.1,k.1],fun i hi=>?_⟩;have hl:=h.1;by_cases e:i<A.length
 . have e1:(L++M).getD i (.slice none 0 0)=L.getD i (.slice none 0 0):=(by simp[List.getD,List.getElem?_append_left (show i<L.length by omega)]);have e2:(A++B).getD i []=A.getD i []:=(by simp[List.getD,List.getElem?_append_left e]);rw[e1,e2];exact h.2 i e
 . have e1:(L++M).getD i (.slice none 0 0)=M.getD (i - A.length) (.slice none 0 0):=(by simp[List.getD,List.getElem?_append_right (show L.length<=i by omega),hl]);have e2:(A++B).getD i []=B.getD (i - A.length) []:=(by simp[List.getD,List.getElem?_append_right (show A.length<=i by omega)]);rw[e1,e2];exact k.2 _ (by rw[List.length_append] at hi;omega)
theorem Q3.take{w:World}{L:List Value}{A:List (List Nat)}(h:Q3 w L A)(k:Nat):Q3 w (L.take k) (A.take k):=by
 refine⟨by rw[List.length_take,List.length_take,h.1],fun i hi=>?_⟩;rw[List.length_take] at hi;have e1:(L.take k).getD i (.slice none 0 0)=L.getD i (.slice none 0 0):=by simp[List.getD,List.getElem?_take_of_lt (show i<k by omega)]
 have e2:(A.take k).getD i []=A.getD i []:=by simp[List.getD,List.getElem?_take_of_lt (show i<k by omega)]
 rw[e1,e2];exact h.2 i om
theorem Q3.drop{w:World}{L:List Value}{A:List (List Nat)}(h:Q3 w L A)(k:Nat):Q3 w (L.drop k) (A.drop k):=by
 refine⟨by rw[List.length_drop,List.length_drop,h.1],fun i hi=>?_⟩;rw[List.length_drop] at hi;have e1:(L.drop k).getD i (.slice none 0 0)=L.getD (k+i) (.slice none 0 0):=by simp[List.getD,List.getElem?_drop]
 have e2:(A.drop k).getD i []=A.getD (k+i) []:=by simp[List.getD,List.getElem?_drop]
 rw[e1,e2];exact h.2 _ om
theorem Q3.all{w:World}{L:List Value}{A:List (List Nat)}(h:Q3 w L A):∀u∈L,u.oneCell'=true:=fun u hu=>by
 obtain⟨i,hi,rfl⟩:=List.getElem_of_mem hu
 have:=h.2 i (by rw[<-h.1];exact hi)
 simpa[List.getD,hi] using this.one
theorem E6.rows{w0 w:World}{v:Value}{A:List (List Nat)}(h:E6 w0 w v A):∃L,A5 26 w0 w v L∧Q3 w L A:=by
 obtain⟨L,h1,h2,h3⟩:=h;exact⟨L,h2,h1,h3⟩
theorem ct2{w0 w:World}{v:Value}{A:List (List Nat)}{L:List Value}(h:A5 26 w0 w v L)(k:Q3 w L A):E6 w0 w v A:=⟨L,k.1,h,k.2⟩
theorem A5.getD{TE:TypeId}{w0 w:World}{v:Value}{L:List Value}(h:A5 TE w0 w v L):∀u∈L,u.oneCell'=true:=h.1
end Go.Zz
