/- Plain facts on the search for a first largest set with a property that parts keep; cliques. No program is named here. -/
import Derived.Test.YtnnbhcalddkmmaaGreatGr5
import Derived.Laws.EntriesVeiled
set_option linter.unusedSimpArgs false
set_option linter.unusedVariables false
set_option linter.unnecessarySimpa false
set_option maxHeartbeats 2000000
set_option maxRecDepth 8000
namespace Go.Zz
def b98(P:Nat->Bool)(N b fr:Nat):Nat:=U6 ((List.range N).filter (fun x=>decide (fr<=x)&&P (b ||| 2 ^ x)))
theorem Z1{P:Nat->Bool}{N b fr i:Nat}:(b98 P N b fr).testBit i=(decide (i<N)&&(decide (fr<=i)&&P (b ||| 2 ^ i))):=by
 unfold b98;rw[O6,Bool.eq_iff_iff];simp[List.mem_filter]
theorem cs9(P:Nat->Bool)(N b fr:Nat):b98 P N b fr<2 ^ N:=b43 fun _ hx=>List.mem_range.1 (List.mem_filter.1 hx).1
def fsS(P:Nat->Bool)(N:Nat):Nat->Nat->Nat->Nat
 | 0,b,_=>b
 | f+1,b,fr=>(j7 (b98 P N b fr)).foldl (fun (best x:Nat)=>if cnt best<cnt (fsS P N f (b ||| 2 ^ x) (x+1)) then fsS P N f (b ||| 2 ^ x) (x+1) else best) b
def fsI(P:Nat->Bool)(N:Nat):Nat->Nat->Nat->Nat->Nat × Int->Nat × Int
 | 0,b,n,_,s=>if s.2<n then (b,n) else s
 | f+1,b,n,fr,s=>(j7 (b98 P N b fr)).foldl (fun (s:Nat × Int) (x:Nat)=>fsI P N f (b ||| 2 ^ x) (n+1) (x+1) s) (if s.2<n then (b,n) else s)
def H5(P:Nat->Bool)(N f b n fr:Nat)(s:Nat × Int)(k:Nat):Nat × Int:=(B8 (b98 P N b fr) k).foldl (fun (s:Nat × Int) (x:Nat)=>fsI P N f (b ||| 2 ^ x) (n+1) (x+1) s) (if s.2<n then (b,n) else s)
theorem dp9{P:Nat->Bool}{N:Nat}(hN:N<=24)(f b n fr:Nat)(s:Nat × Int):fsI P N (f+1) b n fr s=H5 P N f b n fr s N:=by
 unfold H5;rw[U0 hN (cs9 P N b fr)];rfl
theorem c14{a k:Nat}(h:∀i,i<k->a.testBit i=false):B8 a k=[]:=by
 unfold B8;rw[List.filter_eq_nil_iff];intro i hi;rw[h i (List.mem_range.1 hi)];simp
theorem cb6{P:Nat->Bool}{N f b n fr:Nat}{s:Nat × Int}:H5 P N f b n fr s fr=if s.2<n then (b,(n:Int)) else s:=by
 unfold H5;rw[c14 fun i hi=>by rw[Z1];simp;intro _ h;omega];rfl
theorem cx3{P:Nat->Bool}{N f b n fr k:Nat}{s:Nat × Int}(h1:k<N)(h2:fr<=k)(h:P (b ||| 2 ^ k)=true):H5 P N f b n fr s (k+1)=fsI P N f (b ||| 2 ^ k) (n+1) (k+1) (H5 P N f b n fr s k):=by
 unfold H5;rw[E2,show (b98 P N b fr).testBit k=true by rw[Z1,h];simp[h1,h2],if_pos rfl,List.foldl_append];rfl
theorem da3{P:Nat->Bool}{N f b n fr k:Nat}{s:Nat × Int}(h:P (b ||| 2 ^ k)=false):H5 P N f b n fr s (k+1)=H5 P N f b n fr s k:=by
 unfold H5;rw[E2,show (b98 P N b fr).testBit k=false by rw[Z1,h];simp];simp
theorem dn5(x i:Nat):(2 ^ x).testBit i=decide (x=i):=Nat.testBit_two_pow
theorem ck9{b x:Nat}(hb:b<2 ^ 24)(hx:x<24)(h:b.testBit x=false):cnt (b ||| 2 ^ x)=cnt b+1:=by
 have h1:=cr4 (Sub.or_left b (2 ^ x));have e:E0 (b ||| 2 ^ x) b=2 ^ x:=Nat.eq_of_testBit_eq fun i=>by
  rw[Q4,Nat.testBit_or,dn5]
  by_cases hi:x=i
  . subst hi;simp[h]
  . simp[hi]
 rw[e] at h1;have h2:j7 (2 ^ x)=(List.range 24).filter (fun i=>decide (x=i)):=by unfold j7;congr 1;funext i;exact dn5 x i
 have h3:cnt (2 ^ x)=1:=by
  unfold cnt;rw[h2];have:∀n,x<n->((List.range n).filter (fun i=>decide (x=i))).length=1:=by
   intro n;induction n with
   | zero=>omega
   | succ n ih =>
    intro hn;rw[List.range_succ,List.filter_append,List.length_append];by_cases hxn:x=n
    . subst hxn;have:(List.range x).filter (fun i=>decide (x=i))=[]:=(by rw[List.filter_eq_nil_iff];intro i hi;have:=List.mem_range.1 hi;simp;omega);rw[this];simp
    . rw[ih om];simp[hxn]
  exact this 24 hx
 omega
theorem jq2(P:Nat->Bool)(N:Nat)(hN:N<=24):∀(f b fr:Nat) (s:Nat × Int),b<2 ^ fr->fr<=N->fsI P N f b (cnt b) fr s=if s.2<cnt (fsS P N f b fr) then (fsS P N f b fr,(cnt (fsS P N f b fr):Int)) else s:=by
 intro f;induction f with
 | zero=>intro b fr s _ _;rfl
 | succ f ih =>
  intro b fr s hb hfr;unfold fsI fsS;have key:∀(L:List Nat),(∀x∈L,fr<=x∧x<N)->∀r,(L.foldl (fun (s:Nat × Int) (x:Nat)=>fsI P N f (b ||| 2 ^ x) (cnt b+1) (x+1) s) (if s.2<cnt r then (r,(cnt r:Int)) else s)) =
   (if s.2<cnt (L.foldl (fun (best x:Nat)=>if cnt best<cnt (fsS P N f (b ||| 2 ^ x) (x+1)) then fsS P N f (b ||| 2 ^ x) (x+1) else best) r) then (L.foldl (fun (best x:Nat)=>if cnt best<cnt (fsS P N f (b ||| 2 ^ x) (x+1)) then fsS P N f (b ||| 2 ^ x) (x+1) else best) r,(cnt (L.foldl (fun (best x:Nat)=>if cnt best<cnt (fsS P N f (b ||| 2 ^ x) (x+1)) then fsS P N f (b ||| 2 ^ x) (x+1) else best) r):Int)) else s):=by
   intro L;induction L with
   | nil=>intro _ r;rfl
   | cons x L ih2 =>
    intro hL r;obtain⟨hx1,hx2⟩:=hL x zm;have hbx:b.testBit x=false:=U2 hb hx1;have hb24:b<2 ^ 24:=nlt hb (Nat.pow_le_pow_right om om);have hc:=ck9 hb24 (show x<24 by omega) hbx;have hb2:b ||| 2 ^ x<2 ^ (x+1):=Nat.or_lt_two_pow (nlt hb (Nat.pow_le_pow_right om om)) (Nat.pow_lt_pow_right om om)
    simp only[List.foldl_cons];have e:=fun s=>ih (b ||| 2 ^ x) (x+1) s hb2 om;rw[hc] at e;have e2:fsI P N f (b ||| 2 ^ x) (cnt b+1) (x+1) (if s.2<cnt r then (r,(cnt r:Int)) else s) =
     (if s.2<cnt (if cnt r<cnt (fsS P N f (b ||| 2 ^ x) (x+1)) then fsS P N f (b ||| 2 ^ x) (x+1) else r) then ((if cnt r<cnt (fsS P N f (b ||| 2 ^ x) (x+1)) then fsS P N f (b ||| 2 ^ x) (x+1) else r),(cnt (if cnt r<cnt (fsS P N f (b ||| 2 ^ x) (x+1)) then fsS P N f (b ||| 2 ^ x) (x+1) else r):Int)) else s):=by
     rw[e];generalize fsS P N f (b ||| 2 ^ x) (x+1)=y;by_cases h1:s.2<cnt r<;>by_cases h2:cnt r<cnt y<;>by_cases h3:s.2<cnt y<;>simp[h1,h2,h3]<;>omega
    rw[e2];exact ih2 (fun y hy=>hL y (by simp[hy])) _
  refine key _ (fun x hx=>?_) b;have:=(F3.1 hx).2;rw[Z1] at this;simp at this;omega
theorem cl4(P:Nat->Bool)(N:Nat)(hN:N<=24):∀(f b fr:Nat),b<2 ^ 24->fsS P N f b fr<2 ^ 24:=by
 intro f;induction f with
 | zero=>intro b fr h;exact h
 | succ f ih =>
  intro b fr h;unfold fsS;have key:∀(L:List Nat),(∀x∈L,x<24)->∀r,r<2 ^ 24->L.foldl (fun (best x:Nat)=>if cnt best<cnt (fsS P N f (b ||| 2 ^ x) (x+1)) then fsS P N f (b ||| 2 ^ x) (x+1) else best) r<2 ^ 24:=by
   intro L;induction L with
   | nil=>intro _ r hr;exact hr
   | cons x L ih2 =>
    intro hL r hr;simp only[List.foldl_cons];refine ih2 (fun y hy=>hL y (by simp[hy])) _ ?_;split
    . exact ih _ _ (Nat.or_lt_two_pow h (Nat.pow_lt_pow_right om (hL x zm)))
    . exact hr
  exact key _ (fun x hx=>I9 hx) b h
open Go.RowKit Go.Proofs
structure Fw(S:Nat->Prop)(w w':World):Prop where
 os:w'.os=w.os
 tape:w'.tape=w.tape
 output:w'.output=w.output
 size:w.heap.size<=w'.heap.size
 block:∀k,k<w.heap.size->¬S k->w'.heap[k]?=w.heap[k]?
theorem Fw.refl(S:Nat->Prop)(w:World):Fw S w w:=⟨rfl,rfl,rfl,Nat.le_refl _,fun _ _ _=>rfl⟩
theorem Fw.trans{S:Nat->Prop}{w w1 w2:World}(h:Fw S w w1)(k:Fw S w1 w2):Fw S w w2 :=
 ⟨k.os.trans h.os,k.tape.trans h.tape,k.output.trans h.output,nle h.size k.size,fun i hi hs=>(k.block i (nlt hi h.size) hs).trans (h.block i hi hs)⟩
theorem Ext.fw{w w':World}(h:Ext w w')(S:Nat->Prop):Fw S w w':=⟨h.os,h.tape,h.output,h.size,fun k hk _=>h.block k hk⟩
theorem cl5{S:Nat->Prop}{b:Nat}(h:S b)(w:World)(i:Nat)(v:Value):Fw S w (w.setCell ⟨b,i,none⟩ v) :=
 ⟨rfl,rfl,rfl,zm,fun k _ hk=>Below.heap_setCell _ _ _ _ (fun e=>hk (by rw[e];exact h))⟩
theorem Fw.ext{S:Nat->Prop}{w0 w w':World}(h:Fw S w w')(hE:Ext w0 w)(hS:∀k,S k->w0.heap.size<=k):Ext w0 w':=by
 have hs:=hE.size;refine⟨h.os.trans hE.os,h.tape.trans hE.tape,h.output.trans hE.output,nle hs h.size,fun k hk=>?_⟩;rw[h.block k (nlt hk hs) fun e=>by have:=hS k e;omega];exact hE.block k hk
theorem Fw.blk{S:Nat->Prop}{w w':World}(h:Fw S w w'){c:Nat}{T:TypeId}{cs:Array Value}(hB:Blk w c T cs)(hc:¬S c):Blk w' c T cs:=by
 unfold Blk;rw[h.block c hB.lt hc];exact hB
def S3(a b c:Nat)(k:Nat):Prop:=k=a∨k=b∨k=c
theorem d92{f:FuncId}{fn:Func}{c:Code}(hf:Tryz.prog.funcs[f]?=some fn)(hname:(fn.name == "runtime.NumGoroutine")=false)(hb:fn.body=some c)(args:Array Value)(W:World):(callFunc f args).run Tryz.prog W=.ok (.enter f args) W:=by
 have h1:fn.name ≠ "runtime.NumGoroutine" := by simpa using hname
 simp[callFunc,hf,h1,hb]
theorem dv7:(Tryz.prog.info? 26).map (fun i=>(i.zero,i.size,i.bytes))=some (some (.slice none 0 0),1,24):=by kernel_rfl
theorem di1:Tryz.prog.underlying 93=some (.slice 26):=by kernel_rfl
theorem elV:Tryz.prog.underlying 93=some (.slice (Tryz.prog.elem 93)):=by kernel_rfl
theorem szV:∀w,(Go.sizeOf (Tryz.prog.elem 93)).run Tryz.prog w=.ok 1 w:=fun w=>by kernel_rfl
def E7(w0 w:World)(v:Value)(n:Nat):Prop :=
 ∃L:List Value,L.length=n∧(∀u∈L,u.oneCell'=true)∧w.ownsRow w0.heap.size 26 1 v n L∧n<=1000000
theorem E7.blk{w0 w:World}{v:Value}{n:Nat}(h:E7 w0 w v n):∀k,v.ownBlock=some k->w0.heap.size<=k∧k<w.heap.size:=by
 obtain⟨L,-,-,h,-⟩:=h;exact h.lt
theorem E7.ext{w0 w w':World}{v:Value}{n:Nat}(h:E7 w0 w v n)(hE:Ext w w'):E7 w0 w' v n:=by
 obtain⟨L,h1,h2,h3,h4⟩:=h;refine⟨L,h1,h2,h3.kept (row:=none) ⟨hE.os,hE.tape,hE.output,hE.size,fun k hk _=>hE.block k hk⟩ ?_,h4⟩;cases hv:v.ownBlock<;>simp
theorem E7.mono{w0 w1 w:World}{v:Value}{n:Nat}(h:E7 w1 w v n)(hE:Ext w0 w1):E7 w0 w v n:=by
 obtain⟨L,h1,h2,h3,h4⟩:=h;exact⟨L,h1,h2,R0 h3 hE.size,h4⟩
theorem E7.le{w0 w:World}{v:Value}{n:Nat}(h:E7 w0 w v n):n<=1000000:=by obtain⟨_,_,_,_,h⟩:=h;exact h
theorem be1{w0 w:World}(hE:Ext w0 w):E7 w0 (w.alloc (.cells #[] 26)) (.slice (some ⟨w.heap.size,0,none⟩) 0 0) 0:=by
 have:=World.ownsRow_lit (base:=w0.heap.size) (e:=26) (size:=1) w #[] 0 hE.size (by unfold maxLen;omega) zm;exact⟨[],rfl,zm,by simpa using this,om⟩
theorem jd4{w0 w:World}(hE:Ext w0 w)(ao:Option Addr)(n c:Nat):E7 w0 (w.alloc (.cells #[.slice ao n c] 26)) (.slice (some ⟨w.heap.size,0,none⟩) 1 1) 1:=by
 have:=World.ownsRow_lit (base:=w0.heap.size) (e:=26) (size:=1) w #[.slice ao n c] 1 hE.size (by unfold maxLen;omega) zm;exact⟨[.slice ao n c],rfl,by simp[Value.oneCell'],by simpa using this,om⟩
theorem E7.shape{w0 w:World}{v:Value}{n:Nat}(h:E7 w0 w v n) :
 ∃(ao:Option Addr) (c:Nat),v=.slice ao n c∧n<=c∧(∀i,i<n->∃g u,ao=some ⟨g,0,none⟩∧w.cell? ⟨g,i,none⟩=some u):=by
 obtain⟨L,hL,-,h1,-⟩:=h;have h2:=h1.2;rcases h2 with ⟨rfl,hl⟩ | ⟨g,cap,cur,rfl,hg,hh,hc,r⟩
 . exact⟨none,0,by rw[hl],om,om⟩
 . refine⟨some ⟨g,0,none⟩,cap,rfl,hc,fun i hi=>⟨g,L[i]'om,rfl,?_⟩⟩;rw[World.ownsRow.cellAt h1 i om];simp[show i<L.length by omega]
theorem bp5(ty:TypeId)(w0 w:World)(v:Value)(n m c:Nat)(ad:Addr)(M:List Value)(hO:E7 w0 w v n)(hM:M.length=m)(hM1:∀u∈M,u.oneCell'=true)(hnews:∀j x,M[j]?=some x->w.cell? (ad.add j)=some x)(hE:Ext w0 w)(hn:n+m<=1000000) :
 ∃v' w',(Builtin.append_ #[93,93] ty #[v,.slice (some ad) m c]).run Tryz.prog w=.ok v' w'∧E7 w0 w' v' (n+m)∧w.grownBy w' v.ownBlock∧Nw v.ownBlock w v'.ownBlock∧Ext w0 w':=by
 obtain⟨i,hi,hz,hs1,hby⟩:=info_parts dv7;obtain⟨L,hL,hL1,hL2,-⟩:=hO;have hblk:=hL2.lt;have hLM:∀u∈L++M,u.oneCell'=true:=fun u hu=>by
  rw[List.mem_append] at hu
  rcases hu with hu | hu
  . exact hL1 u hu
  . exact hM1 u hu
 have h2:=hL2.2;rcases h2 with ⟨rfl,hl⟩ | ⟨g,cap,cur,rfl,hg,hh,hnc,hcm,hcs,htk⟩
 . subst hl;have hL':L=[]:=List.eq_nil_of_length_eq_zero hL;subst hL';obtain⟨v',w',hrun,r1,r2,-⟩:=run_append_own (P:=Tryz.prog) w w.heap.size 93 ty 26 i (.slice none 0 0) 1 24 di1 hi hz hs1 hby rfl om (.slice none 0 0) 0 [] (World.ownsRow_nil _ _ _ _) ad m c M om hnews hM1 (by unfold maxLen;omega) om (Nat.le_refl _);have r1':=r1.lt;exact⟨v',w',hrun,⟨M,om,hM1,R0 (by simpa using r1) hE.size,om⟩,r2,Or.inr fun k hk=>(r1' k hk).1,hE.grown r2 fun k hk=>by simp[Value.ownBlock] at hk⟩
 . by_cases hroom:n+m<=cap
   . obtain⟨w',hrun,r1,r2⟩:=run_append_fits (P:=Tryz.prog) w w0.heap.size 93 ty 26 i 1 di1 hi hs1 g n cap _ hL2 ad m c M om hnews hM1 hroom;exact⟨_,w',hrun,⟨L++M,by rw[List.length_append];omega,hLM,r1,om⟩,r2,Or.inl rfl,hE.grown r2 fun k hk=>by cases hk;exact hg⟩
   . obtain⟨v',w',hrun,r1,r2⟩:=run_append_arg_grows (P:=Tryz.prog) (w:=w) 93 ty 26 i (.slice none 0 0) 1 24 di1 hi hz hs1 hby rfl om ⟨g,0,none⟩ n cap L om (by
      intro j u hu;have hj:j<L.length:=(List.getElem?_eq_some_iff.1 hu).1;rw[Addr.add_lit,Nat.zero_add,World.ownsRow.cellAt hL2 j om];exact hu) ad m c M om hnews om (by unfold maxLen;omega) om
     have r1':=r1.lt
     exact⟨v',w',hrun,⟨L++M,by rw[List.length_append];omega,hLM,R0 r1 hE.size,om⟩,⟨r2.os,r2.tape,r2.output,r2.size,fun k hk _=>r2.block k hk zm⟩,Or.inr fun k hk=>(r1' k hk).1,hE.grown r2 zm⟩
theorem df0(ty:TypeId)(w0 w1 w:World)(v u:Value)(n m:Nat)(hO:E7 w0 w v n)(hI:E7 w1 w u m)(hE:Ext w0 w)(hn:n+m<=1000000) :
 ∃v' w',(Builtin.append_ #[93,93] ty #[v,u]).run Tryz.prog w=.ok v' w'∧E7 w0 w' v' (n+m)∧w.grownBy w' v.ownBlock∧Nw v.ownBlock w v'.ownBlock∧Ext w0 w':=by
 have hO':=hO;obtain⟨i,hi,hz,hs1,hby⟩:=info_parts dv7;obtain⟨L,hL,-,hL2,-⟩:=hO;obtain⟨M,hM,hM1,hM2,-⟩:=hI;have hM3:=hM2.2;rcases hM3 with ⟨rfl,hl⟩ | ⟨g,cap,cur,rfl,hg,hh,hc,r⟩
 . subst hl;have hrun:=run_append_owned_none (P:=Tryz.prog) w w0.heap.size 93 ty 26 i 1 di1 hi v n L hL2;exact⟨v,w,hrun,hO',⟨rfl,rfl,rfl,Nat.le_refl _,fun _ _ _=>rfl⟩,Or.inl rfl,hE⟩
 . exact bp5 ty w0 w v n m cap ⟨g,0,none⟩ M hO' hM hM1 (fun j x hx=>by
    have hj:j<M.length:=(List.getElem?_eq_some_iff.1 hx).1
    rw[Addr.add_lit,Nat.zero_add,World.ownsRow.cellAt hM2 j om];exact hx) hE hn
section
variable {ops:Array Oper} {rest:List Oper} {o:Oper} {a:Act} {Q:Exit->Act->World->Prop}
theorem bp9(hg:o.guard=none)(s x:Operand)(hop:o.op=Op.call { callee:=Callee.builtin Builtin.append,args:=#[s,x],argTypes:=#[93,93] })
 (w0 w1 w:World) (v u:Value) (n m:Nat) (hO:E7 w0 w v n) (hI:E7 w1 w u m) (hE:Ext w0 w) (hn:n+m<=1000000) (hs:a.eval s=v) (hx:a.eval x=u)
 (hK:∀v' w',E7 w0 w' v' (n+m)->Ext w0 w'->wpList Tryz.prog ops Q rest (a.put o.dst v') w') :
 wpList Tryz.prog ops Q (o :: rest) a w:=by
 obtain⟨v',w',hrun,h1,-,-,h2⟩:=df0 o.type w0 w1 w v u n m hO hI hE hn;refine wpList_plain hg fun K hK'=>?_;unfold Oper.wp;simp[execOp,hop,resolve,invoke,builtin,hs,hx,hrun,Result.andThen];exact hK' _ _ (hK v' w' h1 h2)
theorem cd2(hg:o.guard=none)(s x:Operand)(hop:o.op=Op.call { callee:=Callee.builtin Builtin.append,args:=#[s,x],argTypes:=#[93,93] })
 (w0 W:World) (v:Value) (n:Nat) (ao:Option Addr) (k c:Nat) (hO:E7 w0 W v n) (hE:Ext w0 W) (hn:n<1000000) (hs:a.eval s=v) (hx:a.eval x=.slice (some ⟨W.heap.size,0,none⟩) 1 1)
 (hK:∀v' w',E7 w0 w' v' (n+1)->W.grownBy w' v.ownBlock->Nw v.ownBlock W v'.ownBlock->wpList Tryz.prog ops Q rest (a.put o.dst v') w') :
 wpList Tryz.prog ops Q (o :: rest) a (W.alloc (.cells #[.slice ao k c] 26)):=by
 have e:Ext W (W.alloc (.cells #[.slice ao k c] 26)):=(er W).alloc _;obtain⟨v',w',hrun,h1,h2,h3,-⟩:=bp5 o.type w0 (W.alloc (.cells #[.slice ao k c] 26)) v n 1 1 ⟨W.heap.size,0,none⟩ [.slice ao k c] (hO.ext e) rfl (by simp[Value.oneCell']) (cell_one_new _ _ _) (hE.alloc _) om;refine wpList_plain hg fun K hK'=>?_;unfold Oper.wp;simp[execOp,hop,resolve,invoke,builtin,hs,hx,hrun,Result.andThen];refine hK' _ _ (hK v' w' h1 ⟨h2.os.trans e.os,h2.tape.trans e.tape,h2.output.trans e.output,nle e.size h2.size,fun k hk hne=>?_⟩ ?_)
 . exact zz185
 . rcases h3 with h3 | h3
   . exact Or.inl h3
   . exact Or.inr fun k hk=>nle e.size (h3 k hk)
theorem d38{K:Act->World->Prop}{E:Prop}{w:World}(hg:o.guard=none)(s x:Operand)(hop:o.op=Op.call { callee:=Callee.builtin Builtin.append,args:=#[s,x],argTypes:=#[93,93] })
 (w0:World) (v:Value) (n g:Nat) (ao:Option Addr) (k c:Nat) (hs:a.eval s=v) (hx:a.eval x=.slice (some ⟨g,0,none⟩) 1 1) (hB:Blk w g 26 #[.slice ao k c]) (hO:E7 w0 w v n) (hE:Ext w0 w) (hn:n<1000000)
 (hK:∀v' w',E7 w0 w' v' (n+1)->w.grownBy w' v.ownBlock->Nw v.ownBlock w v'.ownBlock->K (a.put o.dst v') w') :
 if Region.wanted o (yielded ops a.tmps)=true then Oper.wp Tryz.prog o a w K Q else E:=by
 have hw:Region.wanted o (yielded ops a.tmps)=true:=by simp[Region.wanted,hg]
 rw[if_pos hw];obtain⟨v',w',hrun,h1,h2,h3,-⟩:=bp5 o.type w0 w v n 1 1 ⟨g,0,none⟩ [.slice ao k c] hO rfl (by simp[Value.oneCell']) (fun j u hu=>by
  have hj:j<1:=by have:=(List.getElem?_eq_some_iff.1 hu).1;simpa using this
  have e0:j=0:=om
  subst e0
  rw[Addr.add_lit,Nat.zero_add]
  exact hB.cell (i:=0) (by simpa using hu)) hE om
 exact zz72
end
def Bel(n x:Int):Prop:=(n<=0->x=0)∧(0<n->0<=x∧x<n)
theorem A8(w0 w:World)(p:Nat)(n:Int)(hn:n<=256)(h:Cur w0 w p) :
 Calls Tryz.prog 160 #[.pointer (some ⟨p,0,none⟩),.int .i64 n] w fun e w'=>∃x,e=.returned (.int .i64 x)∧Bel n x∧Cur w0 w' p∧Drw p w w':=by
 by_cases h0:n<=0
 . have Hb:Hid (Bel n 0):=zh ⟨fun _=>rfl,fun e=>om⟩;go_in;go_wp2_with fail;go_ret;exact⟨0,rfl,Hb.out,h,Drw.refl p w⟩
 . have hp:0<n:=(by omega);go_in;go_wp2_with fail;refine (b99 w0 w p h).mono ?_;rintro e w1 ⟨x,rfl,hx0,hx1,hC,hF⟩;have hm1:0<=x % n:=Int.emod_nonneg _ om;have hm2:x % n<n:=Int.emod_lt_of_pos _ hp;have Hb:Hid (Bel n (x % n)):=zh ⟨fun e=>om,fun _=>⟨hm1,hm2⟩⟩;have hn0:¬n=0:=om;have htm:x.tmod n=x % n:=Int.tmod_eq_emod_of_nonneg hx0;go_wp2_with fail;go_ret;exact⟨_,rfl,Hb.out,hC,hF⟩
theorem C8(w0 w:World)(p:Nat)(n:Int)(hn:n<=256)(h:Cur w0 w p) :
 Calls Tryz.prog 162 #[.pointer (some ⟨p,0,none⟩),.int .i64 n] w fun e w'=>∃b,e=.returned (.bool b)∧Cur w0 w' p∧Drw p w w':=by
 go_in;go_wp2_with fail;refine (A8 w0 w p n hn h).mono ?_;rintro e w1 ⟨x,rfl,-,hC,hF⟩;go_wp2_with fail;go_ret;exact⟨_,rfl,hC,hF⟩
theorem K8(w0 w wA:World)(p:Nat)(u:Value)(L:List Int)(h:Cur w0 w p)(hO:Own 3 wA w u L)(hp:p<wA.heap.size)(h1:1<=L.length)(h2:L.length<=256) :
 Calls Tryz.prog 197 #[.pointer (some ⟨p,0,none⟩),u] w fun e w'=>∃k,k<L.length∧e=.returned (.int .i64 (nth L k))∧Cur w0 w' p∧Drw p w w':=by
 obtain⟨ao,c,rfl,-⟩:=hO.shape;go_in;go_wp2_with fail;refine (A8 w0 w p L.length om h).mono ?_;rintro e w1 ⟨x,rfl,hb,hC,hF⟩;obtain⟨hx0,hx1⟩:=hb.2 om;obtain⟨k,rfl⟩:=Int.eq_ofNat_of_zero_le hx0;have hk:k<L.length:=om;obtain⟨ao',c',adr,hv,-,hadr,hcell⟩:=(hF.own hO hp).ints.op;simp only[Value.slice.injEq] at hv;obtain⟨rfl,-,rfl⟩:=hv;have hix:=j3 (c:=c) elI szI hadr k;have hck:=hcell k w1 hk (er _);clear hadr hcell;go_wp2_with fail;go_ret;exact⟨k,hk,rfl,hC,hF⟩
def cg2(T:TypeId)(w:World)(Ls:List (List Int)):World:=Ls.foldl (fun w L=>w.alloc (.cells (L.map (Value.int .i64)).toArray T)) w
theorem cy7(T:TypeId)(w:World)(L:List Int)(Ls:List (List Int)):cg2 T w (L :: Ls)=cg2 T (w.alloc (.cells (L.map (Value.int .i64)).toArray T)) Ls:=rfl
theorem cg3(T:TypeId):∀(Ls:List (List Int)) (w:World),Ext w (cg2 T w Ls)
 | [],w=>er w
 | L :: Ls,w=>Ext.trans ((er w).alloc _) (cg3 T Ls _)
theorem cy8(T:TypeId):∀(Ls:List (List Int)) (w:World),(cg2 T w Ls).heap.size=w.heap.size+Ls.length
 | [],w=>rfl
 | L :: Ls,w=>by rw[cy7,cy8 T Ls];simp;omega
theorem dc6(T:TypeId):∀(Ls:List (List Int)) (w:World),(∀L∈Ls,L.length<=1000)->∀k L,Ls[k]?=some L->Own T w (cg2 T w Ls) (.slice (some ⟨w.heap.size+k,0,none⟩) L.length L.length) L
 | [],_,_,k,L,h=>by simp at h
 | M :: Ls,w,hb,k,L,h=>by
  rw[cy7]
  cases k with
  | zero =>
   simp at h
   subst h
   exact (m7 (TI:=T) (by have:=hb M zm;omega) (er w) M rfl).ext (cg3 T Ls _)
  | succ k =>
   have:=dc6 T Ls (w.alloc (.cells (M.map (Value.int .i64)).toArray T)) (fun N hN=>hb N (by simp[hN])) k L (by simpa using h)
   have e:(w.alloc (.cells (M.map (Value.int .i64)).toArray T)).heap.size+k=w.heap.size+(k+1):=by simp;omega
   rw[e] at this
   exact this.mono ((er w).alloc _)
def Z8:List (List Int):=[[],[2],[3],[4],[5],[6],[7],[8],[9],[10],[11],[12],[2,2],[2,4],[3,3],[2,6],[2,2,2],[13],[16],[4,4],[2,2,3],[2,3],[24]]
def c33(n:Nat):List (List Int)->List Value
 | []=>[]
 | L :: Ls=>.slice (some ⟨n,0,none⟩) L.length L.length :: c33 (n+1) Ls
theorem dc5:∀(Ls:List (List Int)) (n k:Nat) (L:List Int),Ls[k]?=some L->(c33 n Ls)[k]?=some (.slice (some ⟨n+k,0,none⟩) L.length L.length)
 | [],_,k,L,h=>by simp at h
 | M :: Ls,n,k,L,h=>by
  cases k with
  | zero=>simp at h;subst h;rfl
  | succ k =>
   have:=dc5 Ls (n+1) k L (by simpa using h)
   rw[show n+1+k=n+(k+1) by omega] at this
   simpa[c33] using this
theorem cm3(w0 w:World)(p:Nat)(m:Int)(h:Cur w0 w p) :
 Calls Tryz.prog 196 #[.pointer (some ⟨p,0,none⟩),.int .i64 m] w fun e w'=>∃ao L c,j1 L=true∧e=.returned (.agg #[.slice ao (List.length L) c])∧Own 3 w w' (.slice ao (List.length L) c) L∧Cur w0 w' p∧Drw p w w':=by
 go_in;go_wp2_with fail;change Calls _ _ _ ((cg2 3 (w.alloc (.cells #[.slice none 0 0] 28)) Z8).alloc (.cells (c33 (w.heap.size+1) Z8).toArray 26)) _;have hB0:Blk (w.alloc (.cells #[.slice none 0 0] 28)) w.heap.size 28 #[.slice none 0 0]:=Blk.new _ _ _;have hE0:Ext w (w.alloc (.cells #[.slice none 0 0] 28)):=(er w).alloc _;have hs0:(w.alloc (.cells #[.slice none 0 0] 28)).heap.size=w.heap.size+1:=zm;have hOl:=fun k L (hk:Z8[k]?=some L)=>dc6 3 Z8 (w.alloc (.cells #[.slice none 0 0] 28)) (by decide) k L hk;have hE1:=cg3 3 Z8 (w.alloc (.cells #[.slice none 0 0] 28));have hs1:=cy8 3 Z8 (w.alloc (.cells #[.slice none 0 0] 28));generalize cg2 3 (w.alloc (.cells #[.slice none 0 0] 28)) Z8=w1 at hOl hE1 hs1 ⊢;generalize w.alloc (.cells #[.slice none 0 0] 28)=wA at hB0 hE0 hs0 hOl hE1 hs1;have hlen:Z8.length=23:=rfl;rw[hs0,hlen] at hs1;have hBg:Blk (w1.alloc (.cells (c33 (w.heap.size+1) Z8).toArray 26)) (w.heap.size+1+1+1+1+1+1+1+1+1+1+1+1+1+1+1+1+1+1+1+1+1+1+1+1) 26 (c33 (w.heap.size+1) Z8).toArray:=Blk.new' om;have hE2:Ext w1 (w1.alloc (.cells (c33 (w.heap.size+1) Z8).toArray 26)):=(er w1).alloc _;generalize w1.alloc (.cells (c33 (w.heap.size+1) Z8).toArray 26)=w2 at hBg hE2 ⊢;have hp:=h.lt;have hC2:=h.ext (hE0.trans (hE1.trans hE2));refine (A8 w0 w2 p 23 om hC2).mono ?_;rintro e w3 ⟨x,rfl,hb,hC,hF⟩;obtain⟨hx0,hx1⟩:=hb.2 om;obtain⟨k,rfl⟩:=Int.eq_ofNat_of_zero_le hx0;have hk:k<23:=om;obtain⟨L,hL⟩:∃L,Z8[k]?=some L:=⟨_,List.getElem?_eq_getElem (by rw[hlen];exact hk)⟩;have hO3:=hF.own ((hOl k L hL).ext hE2) om;have hBg3:=hF.blk hBg om;have hcg:=hBg3.cell (i:=k) (v:=.slice (some ⟨w.heap.size+1+k,0,none⟩) L.length L.length) (by simpa using dc5 Z8 (w.heap.size+1) k L hL);have hB3:=hF.blk (hB0.ext (hE1.trans hE2)) om;have hl3:L.length<=3:=by
  have:∀L∈Z8,L.length<=3:=by decide
  exact this L (List.mem_of_getElem? hL)
 have hgL:j1 L=true:=by
  have:∀L∈Z8,j1 L=true:=by decide
  exact this L (List.mem_of_getElem? hL)
 rw[hs0] at hO3;obtain⟨g,hg⟩:=nq (w.heap.size+1+1+1+1+1+1+1+1+1+1+1+1+1+1+1+1+1+1+1+1+1+1+1+1);rw[<-hg] at hcg ⊢;have hixV:∀W,(Instr.indexAt 93 (.slice (some ⟨g,0,none⟩) 23 23) (.int .i64 (k:Int))).run Tryz.prog W=.ok (.pointer (some ⟨g,k,none⟩)) W:=fun W=>by
  rw[run_indexAt_slice (h:=elV),if_pos om,szV]
  exact zz71
 obtain⟨b,hbd⟩:=nq (w.heap.size+1+k);rw[<-hbd] at hcg hO3;obtain⟨ao',c',adr,hv,-,hadr,hcell⟩:=hO3.ints.op;simp only[Value.slice.injEq] at hv;obtain⟨rfl,-,rfl⟩:=hv;have hixo:=j3 (c:=L.length) elI szI hadr;have Hcell:=zh hcell;have hkb:=hB3.cell (i:=0) (v:=.slice none 0 0) rfl;have hfb:=hB3.free 0;have hF3:=zh (((hE0.trans (hE1.trans hE2)).drw p).trans hF);have hsz:=hF.size;have HE0:=zh hE0;clear hadr hcell hB0 hE0 hs0 hOl hE1 hs1 hBg hE2 hC2 hF hb hL hBg3 hg hbd;go_wp2_with fail;go_loopw [7,8] (fun sn si wr=>∃(q:Nat) (n:Int),q<=L.length∧si=.int .i64 q∧sn=.int .i64 n∧wr=w3) (fun _ si _=>L.length - (intOf si).toNat);case atStart=>exact⟨0,_,om,rfl,rfl,rfl⟩
 case round =>
  obtain⟨q,n,hq,rfl,rfl,rfl⟩:=hrel;by_cases hlt:q<L.length
  . have hltI:(q:Int)<(L.length:Int):=(by omega);have hck:=Hcell.out q wr hlt (er _);go_wp2_with fail;go_roundw;(case rel=>exact⟨q+1,_,om,zg,rfl,by trivial⟩);case measure=>exact zm1
  . have hltI:¬(q:Int)<(L.length:Int):=(by omega);have hsw:w.heap.size<wr.heap.size:=hB3.lt;by_cases hgt:m<n
    . have hO:=(m7 (TI:=3) (n:=1) om (er wr) [5] rfl);have hBn:=hB3.alloc (.cells #[.int .i64 5] 3);have kbn:=hBn.cell (i:=0) (v:=.slice none 0 0) rfl;have fbn:=hBn.free 0;have kres:=(hBn.set 0 (.slice (some ⟨wr.heap.size,0,none⟩) 1 1)).cell (i:=0) (v:=.slice (some ⟨wr.heap.size,0,none⟩) 1 1) rfl;go_wp2_with fail;clear kbn fbn hBn hO kres;have hs5:(wr.setCell ⟨w.heap.size,0,none⟩ (.slice (some ⟨wr.heap.size,0,none⟩) 1 1)).heap.size=wr.heap.size:=zm;have hO5:=(m7 (TI:=3) (n:=1) om (er (wr.setCell ⟨w.heap.size,0,none⟩ (.slice (some ⟨wr.heap.size,0,none⟩) 1 1))) [5] rfl).low (w0:=w) om;rw[hs5] at hO5;have hC5:=(hC.other (b:=w.heap.size) (i:=0) om om (.slice (some ⟨wr.heap.size,0,none⟩) 1 1)).alloc (.cells #[.int .i64 5] 3);have hF5:=(hF3.out.set (Nat.le_refl _) 0 (.slice (some ⟨wr.heap.size,0,none⟩) 1 1)).alloc (.cells #[.int .i64 5] 3);have kres:=((hB3.set 0 (.slice (some ⟨wr.heap.size,0,none⟩) 1 1)).alloc (.cells #[.int .i64 5] 3)).cell (i:=0) (v:=.slice (some ⟨wr.heap.size,0,none⟩) 1 1) rfl;change Own _ _ (World.alloc _ (.cells #[.int .i64 5] _)) _ _ at hO5;generalize (wr.setCell ⟨w.heap.size,0,none⟩ (.slice (some ⟨wr.heap.size,0,none⟩) 1 1)).alloc (.cells #[.int .i64 5] 3)=w5 at kres hO5 hC5 hF5 ⊢;refine bodyPost_ret (v:=.agg #[.slice (some ⟨wr.heap.size,0,none⟩) 1 1]) (by simp[results,Tryz.results196,go_sem,kres]) rfl ⟨_,([5]:List Int),by decide,_,rfl,hO5,hC5,hF5⟩
    . have hO:=(m7 (TI:=3) (n:=0) om (er wr) [] rfl);have hIL:=(hO3.alloc (.cells #[] 3)).ints;have hEr:=(er wr).alloc (.cells #[] 3);go_wp2_with (at_builtin;refine I2 slI rfl _ _ rfl _ _ _ _ _ _ hO hIL hEr (by simp;omega) rfl rfl ?_;intro v1 w4 hO4 hE4;obtain⟨a4,c4,rfl,-⟩:=hO4.shape;rw[List.nil_append] at hO4;have hB4:=hB3.ext hE4;have k4:=hB4.cell (i:=0) (v:=.slice none 0 0) rfl;have f4:=hB4.free 0);have kres:=(hB4.set 0 (.slice a4 L.length c4)).cell (i:=0) (v:=.slice a4 L.length c4) rfl;have hO5:=(Own.setCell_below hO4 (p:=⟨w.heap.size,0,none⟩) hsw (.slice a4 L.length c4)).low (Nat.le_of_lt hsw);have hC5:=(hC.ext hE4).other (b:=w.heap.size) (i:=0) om om (.slice a4 L.length c4);have hF5:=(hF3.out.trans (hE4.drw p)).set (Nat.le_refl _) 0 (.slice a4 L.length c4);generalize w4.setCell ⟨w.heap.size,0,none⟩ (.slice a4 L.length c4)=w5 at kres hO5 hC5 hF5 ⊢;refine bodyPost_ret (v:=.agg #[.slice a4 L.length c4]) (by simp[results,Tryz.results196,go_sem,kres]) rfl ⟨_,L,hgL,_,rfl,hO5,hC5,hF5⟩
theorem cm2(w0 w:World)(p:Nat)(m:Int)(h:Cur w0 w p) :
 Calls Tryz.prog 196 #[.pointer (some ⟨p,0,none⟩),.int .i64 m] w fun e w'=>∃ao L c,e=.returned (.agg #[.slice ao (List.length L) c])∧Own 3 w w' (.slice ao (List.length L) c) L∧Cur w0 w' p∧Drw p w w' :=
 (cm3 w0 w p m h).mono fun _ _ ⟨ao,L,c,_,h⟩=>⟨ao,L,c,h⟩
theorem b36(w0 w:World)(p:Nat)(h:Cur w0 w p) :
 Calls Tryz.prog 85 #[.pointer (some ⟨p,0,none⟩)] w fun e w'=>∃ao L c,e=.returned (.agg #[.slice ao (List.length L) c])∧Own 3 w w' (.slice ao (List.length L) c) L∧Cur w0 w' p∧Drw p w w':=by
 have hp:=h.lt;have hB0:Blk (w.alloc (.cells #[.slice none 0 0] 28)) w.heap.size 28 #[.slice none 0 0]:=Blk.new _ _ _;have hs0:(w.alloc (.cells #[.slice none 0 0] 28)).heap.size=w.heap.size+1:=zm;go_in;go_wp2_with fail;refine (cm2 w0 _ p 24 (h.alloc _)).mono ?_;rintro e w2 ⟨ao,L,c,rfl,hO2,hC2,hF2⟩;have hB2:=hF2.blk hB0 om;have hsz2:=hF2.size;have hF02:=(((er w).alloc (.cells #[.slice none 0 0] 28)).drw p).trans hF2;have hBg:Blk (w2.alloc (.cells #[.slice ao L.length c] 28)) w2.heap.size 28 #[.slice ao L.length c]:=Blk.new _ _ _;clear hB0 hF2;go_wp2_with fail;refine (A8 w0 _ p 16 om (hC2.alloc _)).mono ?_;rintro e w3 ⟨x,rfl,hb,hCr,hF3⟩;obtain⟨hx0,hx1⟩:=hb.2 om;have hBr:=hF3.blk (hB2.alloc (.cells #[.slice ao L.length c] 28)) om;have hBg3:=hF3.blk hBg om;have hO3:=hF3.own (hO2.alloc (.cells #[.slice ao L.length c] 28)) om;have hsz3:=hF3.size;have hsz4:w2.heap.size+1=(w2.alloc (.cells #[.slice ao L.length c] 28)).heap.size:=zm;have hFr:=zh ((hF02.alloc (.cells #[.slice ao L.length c] 28)).trans hF3);clear hB2 hBg hO2 hF3 hF02;by_cases e0:x=0
 . subst e0;have hOl:=m7 (TI:=3) (n:=5) om (er w3) [0,1,-1,25,9223372036854775807] rfl;go_wp2_with fail;refine (K8 w0 _ w3 p _ _ (hCr.alloc _) hOl om (by decide) (by decide)).mono ?_;rintro e w4 ⟨k,hk,rfl,hC4,hF4⟩;have hBr4:=hF4.blk (hBr.alloc _) om;have hFr4:=zh ((hFr.out.alloc _).trans hF4);have hsz5:=hF4.size;obtain⟨y,hy⟩:=nq (nth [0,1,-1,25,9223372036854775807] k);rw[<-hy];clear hy hBr hFr hCr hF4 hOl hk;have hBr:=hBr4;have hFr:=hFr4;have hCr:=hC4;clear hBr4 hFr4 hC4;have hsw:=hBr.lt;have hBn:=hBr.alloc (.cells #[.int .i64 y] 3);have kbn:=hBn.cell (i:=0) (v:=.slice none 0 0) rfl;have fbn:=hBn.free 0;go_wp2_with fail;clear kbn fbn hBn;have hs5:(w4.setCell ⟨w.heap.size,0,none⟩ (.slice (some ⟨w4.heap.size,0,none⟩) 1 1)).heap.size=w4.heap.size:=zm;have hO5:=(m7 (TI:=3) (n:=1) om (er (w4.setCell ⟨w.heap.size,0,none⟩ (.slice (some ⟨w4.heap.size,0,none⟩) 1 1))) [y] rfl).low (w0:=w) (by have:=hBr.lt;omega);rw[hs5] at hO5;have hC5:=(hCr.other (b:=w.heap.size) (i:=0) om om (.slice (some ⟨w4.heap.size,0,none⟩) 1 1)).alloc (.cells #[.int .i64 y] 3);have hF5:=(hFr.out.set (Nat.le_refl _) 0 (.slice (some ⟨w4.heap.size,0,none⟩) 1 1)).alloc (.cells #[.int .i64 y] 3);have kres:=((hBr.set 0 (.slice (some ⟨w4.heap.size,0,none⟩) 1 1)).alloc (.cells #[.int .i64 y] 3)).cell (i:=0) (v:=.slice (some ⟨w4.heap.size,0,none⟩) 1 1) rfl;change Own _ _ (World.alloc _ (.cells #[.int .i64 y] _)) _ _ at hO5;generalize (w4.setCell ⟨w.heap.size,0,none⟩ (.slice (some ⟨w4.heap.size,0,none⟩) 1 1)).alloc (.cells #[.int .i64 y] 3)=w5 at kres hO5 hC5 hF5 ⊢;refine bodyPost_ret (v:=.agg #[.slice (some ⟨w4.heap.size,0,none⟩) 1 1]) (by simp[results,Tryz.results85,go_sem,kres]) rfl ⟨_,[y],_,rfl,hO5,hC5,hF5⟩
 . have h0:(x == 0)=false:=(by rw[beq_eq_false_iff_ne];exact e0);by_cases e1:x=1
   . subst e1;have hsw:=hBr.lt;have hBn:=hBr.alloc (.cells #[.int .i64 2,.int .i64 2,.int .i64 2,.int .i64 2] 3);have kbn:=hBn.cell (i:=0) (v:=.slice none 0 0) rfl;have fbn:=hBn.free 0;go_wp2_with fail;clear kbn fbn hBn;have hs5:(w3.setCell ⟨w.heap.size,0,none⟩ (.slice (some ⟨w3.heap.size,0,none⟩) 4 4)).heap.size=w3.heap.size:=zm;have hO5:=(m7 (TI:=3) (n:=4) om (er (w3.setCell ⟨w.heap.size,0,none⟩ (.slice (some ⟨w3.heap.size,0,none⟩) 4 4))) [2,2,2,2] rfl).low (w0:=w) (by have:=hBr.lt;omega);rw[hs5] at hO5;have hC5:=(hCr.other (b:=w.heap.size) (i:=0) om om (.slice (some ⟨w3.heap.size,0,none⟩) 4 4)).alloc (.cells #[.int .i64 2,.int .i64 2,.int .i64 2,.int .i64 2] 3);have hF5:=(hFr.out.set (Nat.le_refl _) 0 (.slice (some ⟨w3.heap.size,0,none⟩) 4 4)).alloc (.cells #[.int .i64 2,.int .i64 2,.int .i64 2,.int .i64 2] 3);have kres:=((hBr.set 0 (.slice (some ⟨w3.heap.size,0,none⟩) 4 4)).alloc (.cells #[.int .i64 2,.int .i64 2,.int .i64 2,.int .i64 2] 3)).cell (i:=0) (v:=.slice (some ⟨w3.heap.size,0,none⟩) 4 4) rfl;change Own _ _ (World.alloc _ (.cells #[.int .i64 2,.int .i64 2,.int .i64 2,.int .i64 2] _)) _ _ at hO5;generalize (w3.setCell ⟨w.heap.size,0,none⟩ (.slice (some ⟨w3.heap.size,0,none⟩) 4 4)).alloc (.cells #[.int .i64 2,.int .i64 2,.int .i64 2,.int .i64 2] 3)=w5 at kres hO5 hC5 hF5 ⊢;refine bodyPost_ret (v:=.agg #[.slice (some ⟨w3.heap.size,0,none⟩) 4 4]) (by simp[results,Tryz.results85,go_sem,kres]) rfl ⟨_,[2,2,2,2],_,rfl,hO5,hC5,hF5⟩
   . have h1:(x == 1)=false:=(by rw[beq_eq_false_iff_ne];exact e1);by_cases e2:x=2
     . subst e2;have hsw:=hBr.lt;have hBn:=hBr.alloc (.cells #[.int .i64 5,.int .i64 5] 3);have kbn:=hBn.cell (i:=0) (v:=.slice none 0 0) rfl;have fbn:=hBn.free 0;go_wp2_with fail;clear kbn fbn hBn;have hs5:(w3.setCell ⟨w.heap.size,0,none⟩ (.slice (some ⟨w3.heap.size,0,none⟩) 2 2)).heap.size=w3.heap.size:=zm;have hO5:=(m7 (TI:=3) (n:=2) om (er (w3.setCell ⟨w.heap.size,0,none⟩ (.slice (some ⟨w3.heap.size,0,none⟩) 2 2))) [5,5] rfl).low (w0:=w) (by have:=hBr.lt;omega);rw[hs5] at hO5;have hC5:=(hCr.other (b:=w.heap.size) (i:=0) om om (.slice (some ⟨w3.heap.size,0,none⟩) 2 2)).alloc (.cells #[.int .i64 5,.int .i64 5] 3);have hF5:=(hFr.out.set (Nat.le_refl _) 0 (.slice (some ⟨w3.heap.size,0,none⟩) 2 2)).alloc (.cells #[.int .i64 5,.int .i64 5] 3);have kres:=((hBr.set 0 (.slice (some ⟨w3.heap.size,0,none⟩) 2 2)).alloc (.cells #[.int .i64 5,.int .i64 5] 3)).cell (i:=0) (v:=.slice (some ⟨w3.heap.size,0,none⟩) 2 2) rfl;change Own _ _ (World.alloc _ (.cells #[.int .i64 5,.int .i64 5] _)) _ _ at hO5;generalize (w3.setCell ⟨w.heap.size,0,none⟩ (.slice (some ⟨w3.heap.size,0,none⟩) 2 2)).alloc (.cells #[.int .i64 5,.int .i64 5] 3)=w5 at kres hO5 hC5 hF5 ⊢;refine bodyPost_ret (v:=.agg #[.slice (some ⟨w3.heap.size,0,none⟩) 2 2]) (by simp[results,Tryz.results85,go_sem,kres]) rfl ⟨_,[5,5],_,rfl,hO5,hC5,hF5⟩
     . have h2:(x == 2)=false:=(by rw[beq_eq_false_iff_ne];exact e2);have kr:=hBr.cell (i:=0) (v:=.slice none 0 0) rfl;have fr:=hBr.free 0;have kg:=hBg3.cell (i:=0) (v:=.slice ao L.length c) rfl;have kres:=(hBr.set 0 (.slice ao L.length c)).cell (i:=0) (v:=.slice ao L.length c) rfl;have hO5:Own 3 w (w3.setCell ⟨w.heap.size,0,none⟩ (.slice ao L.length c)) (.slice ao L.length c) L:=(hO3.setCell_below (p:=⟨w.heap.size,0,none⟩) (by rw[hs0];exact Nat.lt_succ_self _) _).low om;have hC5:=hCr.other (b:=w.heap.size) (i:=0) om om (.slice ao L.length c);have hF5:=hFr.out.set (Nat.le_refl _) 0 (.slice ao L.length c);go_wp2_with fail;generalize w3.setCell ⟨w.heap.size,0,none⟩ (.slice ao L.length c)=w5 at kres hO5 hC5 hF5 ⊢;refine bodyPost_ret (v:=.agg #[.slice ao L.length c]) (by simp[results,Tryz.results85,go_sem,kres]) rfl ⟨_,L,_,rfl,hO5,hC5,hF5⟩
theorem zz122{P:Prop}(h:P:=by rw[<-hyd] at hy ⊢;clear hyd hOl;go_wp2_with fail;go_ret;exact⟨_,rfl,hy,hC4,hF4'⟩):P:=h
theorem zz141{P:Prop}(h:P:=by rintro e w4 ⟨x,rfl,hb,hC4,hF4⟩;have hx:=hb.2 om;have hF4':=hF3.out.trans hF4;go_wp2_with fail;go_ret;exact⟨_,rfl,⟨om,om⟩,hC4,hF4'⟩):P:=h
theorem d28(w0 w wA:World)(p:Nat)(v:Value)(L:List Int)(h:Cur w0 w p)(hO:Own 3 wA w v L)(hpA:p<wA.heap.size) :
 Calls Tryz.prog 334 #[.pointer (some ⟨p,0,none⟩),.agg #[v]] w fun e w'=>∃x,e=.returned (.int .i64 x)∧(-9223372036854775808<=x∧x<=9223372036854775807)∧Cur w0 w' p∧Drw p w w':=by
 have hp:=h.lt;have hB0:Blk (w.alloc (.cells #[v] 28)) w.heap.size 28 #[v]:=Blk.new _ _ _;have hO0:=hO.alloc (.cells #[v] 28);go_in;go_wp2_with fail;refine (C8 w0 _ p 16 om (h.alloc _)).mono ?_;rintro e w2 ⟨b,rfl,hC2,hF2⟩;have hB2:=hF2.blk hB0 om;have hO2:=hF2.own hO0 hpA;have hF02:=zh ((((er w).alloc (.cells #[v] 28)).drw p).trans hF2);have hsz2:=hF2.size;have hsz1:(w.alloc (.cells #[v] 28)).heap.size=w.heap.size+1:=zm;clear hO hO0 hB0 hF2;cases b
 . have kb:=hB2.cell (i:=0) (v:=v) rfl;have hob:=bc3 L;go_wp2_with fail;refine (K5 _ L _ hO2.ints).mono ?_;rintro e w3 ⟨rfl,hE3⟩;obtain⟨n,hn⟩:=nq (b40 L);rw[<-hn] at hob ⊢;have hC3:=hC2.ext hE3;have hF3:=zh (hF02.out.trans (hE3.drw p));clear hn;by_cases h1n:1<n
   . go_wp2_with fail;refine (A8 w0 _ p n om hC3).mono ?_;exact zz141
   . go_wp2_with fail;refine (A8 w0 _ p 1 om hC3).mono ?_;exact zz141
 . have hOl:=m7 (TI:=3) (n:=3) om (er w2) [-1,24,9223372036854775807] rfl;go_wp2_with fail;refine (K8 w0 _ w2 p _ _ (hC2.alloc _) hOl om (by decide) (by decide)).mono ?_;rintro e w4 ⟨k,hk,rfl,hC4,hF4⟩;have hF4':=(hF02.out.alloc _).trans hF4;have hy : -9223372036854775808<=nth [-1,24,9223372036854775807] k∧nth [-1,24,9223372036854775807] k<=9223372036854775807:=by
    have:k=0∨k=1∨k=2:=(by simp at hk;omega);rcases this with rfl | rfl | rfl<;>decide
   obtain⟨y,hyd⟩:=nq (nth [-1,24,9223372036854775807] k);exact zz122
theorem zz106{P:Prop}(h:P:=by have hF3':=zh (hF.out.trans hF3);have hsz5:=hF3.size;clear hb hF3;go_wp2_with fail;go_roundw;(case rel=>exact⟨k - 1,a ||| 2 ^ z,ha2,om,om,zg,rfl,hC3,hF3',om⟩);case measure=>exact zm1):P:=h
theorem zz113{P:Prop}(h:P:=by go_wp2_with fail;go_ret;exact⟨_,rfl,⟨om,om⟩,hC3,hF3'.out⟩):P:=h
theorem E4(w0 w wA:World)(p:Nat)(v:Value)(L:List Int)(h:Cur w0 w p)(hO:Own 3 wA w v L)(hpA:p<wA.heap.size) :
 Calls Tryz.prog 289 #[.pointer (some ⟨p,0,none⟩),.agg #[v]] w fun e w'=>∃x,e=.returned (.int .i64 x)∧(-9223372036854775808<=x∧x<=9223372036854775807)∧Cur w0 w' p∧Drw p w w':=by
 have hp:=h.lt;have hB0:Blk (w.alloc (.cells #[v] 28)) w.heap.size 28 #[v]:=Blk.new _ _ _;have kb:=hB0.cell (i:=0) (v:=v) rfl;have hO0:=hO.alloc (.cells #[v] 28);have hob:=bc3 L;go_in;go_wp2_with fail;refine (K5 _ L _ hO0.ints).mono ?_;rintro e w1 ⟨rfl,hE1⟩;obtain⟨n,hn⟩:=nq (b40 L);rw[<-hn] at hob ⊢;have hC1:=(h.alloc (.cells #[v] 28)).ext hE1;have hF1:=zh (((((er w).alloc (.cells #[v] 28))).trans hE1).drw p);have hsz2:=hE1.size;have hsz1:(w.alloc (.cells #[v] 28)).heap.size=w.heap.size+1:=zm;clear hO hO0 hB0 kb hE1 hn;obtain⟨m,rfl⟩:=Int.eq_ofNat_of_zero_le hob.1;have hm24:m<=24:=om;have hP1:=T3 m;have hP2:=b51 hm24;have hq:=p6 (n:=m) om;by_cases h1n:1<(m:Int)
 . go_wp2_with fail;refine (A8 w0 _ p 6 om hC1).mono ?_;rintro e w2 ⟨x,rfl,hb,hC2,hF2⟩;obtain⟨hx0,hx1⟩:=hb.2 om;have hF2':=zh (hF1.out.trans hF2);have hsz3:=hF2.size;clear hF1 hC1 hF2 hb;go_wp2_with fail;go_loopw [6,7] (fun sa sk wr=>∃(k:Int) (a:Nat),a<2 ^ 24∧0<=k∧k<=6∧sk=.int .i64 k∧sa=.int .i64 a∧Cur w0 wr p∧Hid (Drw p w wr)∧w2.heap.size<=wr.heap.size) (fun _ sk _=>(intOf sk).toNat);(case atStart=>exact⟨x,0,by decide,hx0,om,rfl,rfl,hC2,hF2',Nat.le_refl _⟩);case round =>
    rename World=>wr;clear hC2 hF2' hx0 hx1;obtain⟨k,a,ha,hk0,hk6,rfl,rfl,hC,hF,hsz4⟩:=hrel;by_cases hlt:0<k
    . go_wp2_with fail;refine (A8 w0 _ p (m:Int) om hC).mono ?_;rintro e w3 ⟨y,rfl,hb,hC3,hF3⟩;obtain⟨hy0,hy1⟩:=hb.2 om;obtain⟨z,rfl⟩:=Int.eq_ofNat_of_zero_le hy0;have hz:z<24:=om;have q1:=p6 (n:=z) om;have q2:=F6 ha hz;have ha2:a ||| 2 ^ z<2 ^ 24:=Nat.or_lt_two_pow ha (Nat.pow_lt_pow_right om hz)
      exact zz106
    . go_wp2_with fail;refine (A8 w0 _ p 20 om hC).mono ?_;rintro e w3 ⟨y,rfl,hb,hC3,hF3⟩;obtain⟨hy0,hy1⟩:=hb.2 om;have hF3':=zh (hF.out.trans hF3);have hsz5:=hF3.size;clear hb hF3;by_cases e0:y=0
      . subst e0;skip;exact zz113
      . have h0:(y == 0)=false:=(by rw[beq_eq_false_iff_ne];exact e0);by_cases e1:y=1
        . subst e1;have hOl:=m7 (TI:=3) (n:=3) om (er w3) [-1,16777216,9223372036854775807] rfl;go_wp2_with fail;refine (K8 w0 _ w3 p _ _ (hC3.alloc _) hOl om (by decide) (by decide)).mono ?_;rintro e w4 ⟨j,hj,rfl,hC4,hF4⟩;have hF4':=(hF3'.out.alloc _).trans hF4;have hy : -9223372036854775808<=nth [-1,16777216,9223372036854775807] j∧nth [-1,16777216,9223372036854775807] j<=9223372036854775807:=by
           have:j=0∨j=1∨j=2:=(by simp at hj;omega);rcases this with rfl | rfl | rfl<;>decide
          obtain⟨y,hyd⟩:=nq (nth [-1,16777216,9223372036854775807] j);exact zz122
        . have h1:(y == 1)=false:=(by rw[beq_eq_false_iff_ne];exact e1);exact zz113
 . go_wp2_with fail;refine (A8 w0 _ p 6 om hC1).mono ?_;rintro e w2 ⟨x,rfl,hb,hC2,hF2⟩;obtain⟨hx0,hx1⟩:=hb.2 om;have hF2':=zh (hF1.out.trans hF2);have hsz3:=hF2.size;clear hF1 hC1 hF2 hb;go_wp2_with fail;go_loopw [6,7] (fun sa sk wr=>∃(k:Int) (a:Nat),a<2 ^ 24∧0<=k∧k<=6∧sk=.int .i64 k∧sa=.int .i64 a∧Cur w0 wr p∧Hid (Drw p w wr)∧w2.heap.size<=wr.heap.size) (fun _ sk _=>(intOf sk).toNat);(case atStart=>exact⟨x,0,by decide,hx0,om,rfl,rfl,hC2,hF2',Nat.le_refl _⟩);case round =>
    rename World=>wr;clear hC2 hF2' hx0 hx1;obtain⟨k,a,ha,hk0,hk6,rfl,rfl,hC,hF,hsz4⟩:=hrel;by_cases hlt:0<k
    . go_wp2_with fail;refine (A8 w0 _ p 1 om hC).mono ?_;rintro e w3 ⟨y,rfl,hb,hC3,hF3⟩;obtain⟨hy0,hy1⟩:=hb.2 om;obtain⟨z,rfl⟩:=Int.eq_ofNat_of_zero_le hy0;have hz:z<24:=om;have q1:=p6 (n:=z) om;have q2:=F6 ha hz;have ha2:a ||| 2 ^ z<2 ^ 24:=Nat.or_lt_two_pow ha (Nat.pow_lt_pow_right om hz)
      exact zz106
    . go_wp2_with fail;refine (A8 w0 _ p 20 om hC).mono ?_;rintro e w3 ⟨y,rfl,hb,hC3,hF3⟩;obtain⟨hy0,hy1⟩:=hb.2 om;have hF3':=zh (hF.out.trans hF3);have hsz5:=hF3.size;clear hb hF3;by_cases e0:y=0
      . subst e0;have hq1:db6 1 1=2:=(by decide);exact zz113
      . have h0:(y == 0)=false:=(by rw[beq_eq_false_iff_ne];exact e0);by_cases e1:y=1
        . subst e1;have hOl:=m7 (TI:=3) (n:=3) om (er w3) [-1,16777216,9223372036854775807] rfl;go_wp2_with fail;refine (K8 w0 _ w3 p _ _ (hC3.alloc _) hOl om (by decide) (by decide)).mono ?_;rintro e w4 ⟨j,hj,rfl,hC4,hF4⟩;have hF4':=(hF3'.out.alloc _).trans hF4;have hy : -9223372036854775808<=nth [-1,16777216,9223372036854775807] j∧nth [-1,16777216,9223372036854775807] j<=9223372036854775807:=by
           have:j=0∨j=1∨j=2:=(by simp at hj;omega);rcases this with rfl | rfl | rfl<;>decide
          obtain⟨y,hyd⟩:=nq (nth [-1,16777216,9223372036854775807] j);exact zz122
        . have h1:(y == 1)=false:=(by rw[beq_eq_false_iff_ne];exact e1);exact zz113
def dw3(r:Nat):Nat->Nat->Nat
 | 0,e=>e
 | n+1,e=>if r.testBit e then dw3 r n (e+1) else e
def bp4(r:Nat):Nat:=dw3 r 25 0
theorem jl9{r e:Nat}(h2:r.testBit e=false):∀n i,i<=e->e<i+n->(∀j,i<=j->j<e->r.testBit j=true)->dw3 r n i=e:=by
 intro n;induction n with
 | zero=>intro i h3 h4;omega
 | succ n ih =>
  intro i h3 h4 h1;unfold dw3;by_cases hi:i=e
  . subst hi;rw[h2];rfl
  . rw[h1 i (Nat.le_refl _) om];exact ih (i+1) om om fun j hj hj2=>h1 j om hj2
theorem ct0{r e:Nat}(h1:∀j,j<e->r.testBit j=true)(h2:r.testBit e=false)(h3:e<=24):bp4 r=e :=
 jl9 h2 25 0 om om fun j _ hj=>h1 j hj
theorem ch0{l:List Int}{u e:Nat}(hu:u<2 ^ ord l)(h:∀j,j<e->u.testBit j=true)(he:ord l<=e):u=l9 l:=by
 apply Nat.eq_of_testBit_eq;intro i;rw[c24];by_cases hi:i<ord l
 . rw[h i om];simp[hi]
 . rw[U2 hu om];simp[hi]
def dF(l:List Int)(u x:Nat):Nat:=m6 l (bp4 u) (p9 l x)
def tlS(l:List Int)(a:Nat):Nat->Nat->Nat->Nat->List Nat
 | 0,_,_,_=>[]
 | f+1,u,b,m=>if u=l9 l then [b] else
  (j7 a).foldl (fun (out:List Nat) (x:Nat)=>if out.length<m∧j6 l a (dF l u x) &&& u=0 then out++tlS l a f (u ||| j6 l a (dF l u x)) (b ||| 2 ^ dF l u x) (m - out.length) else out) []
def R3(l:List Int)(a f u b m k:Nat):List Nat:=((j7 a).take k).foldl (fun (out:List Nat) (x:Nat)=>if out.length<m∧j6 l a (dF l u x) &&& u=0 then out++tlS l a f (u ||| j6 l a (dF l u x)) (b ||| 2 ^ dF l u x) (m - out.length) else out) []
theorem cj5{l:List Int}{a f u b m:Nat}(h:u=l9 l):tlS l a (f+1) u b m=[b]:=by unfold tlS;rw[if_pos h]
theorem jo9{l:List Int}{a f u b m:Nat}(h:u≠l9 l):tlS l a (f+1) u b m=R3 l a f u b m (j7 a).length:=by
 unfold tlS R3;rw[if_neg h,List.take_length]
theorem b95{a k:Nat}(hk:k<(j7 a).length):(j7 a).take (k+1)=(j7 a).take k++[(j7 a)[k]]:=List.take_succ_eq_append_getElem hk
theorem j73{l:List Int}{a f u b m k:Nat}(hk:k<(j7 a).length)(hm:(R3 l a f u b m k).length<m)(h:j6 l a (dF l u (j7 a)[k]) &&& u=0) :
 R3 l a f u b m (k+1)=R3 l a f u b m k++tlS l a f (u ||| j6 l a (dF l u (j7 a)[k])) (b ||| 2 ^ dF l u (j7 a)[k]) (m - (R3 l a f u b m k).length):=by
 unfold R3 at hm ⊢;rw[b95 hk,List.foldl_append];simp only[List.foldl_cons,List.foldl_nil];rw[if_pos ⟨hm,h⟩]
theorem jg2{l:List Int}{a f u b m k:Nat}(hk:k<(j7 a).length)(h:¬j6 l a (dF l u (j7 a)[k]) &&& u=0):R3 l a f u b m (k+1)=R3 l a f u b m k:=by
 unfold R3;rw[b95 hk,List.foldl_append];simp only[List.foldl_cons,List.foldl_nil];rw[if_neg fun e=>h e.2]
theorem dx6{l:List Int}{a f u b m k:Nat}(hm:¬(R3 l a f u b m k).length<m):∀d,R3 l a f u b m (k+d)=R3 l a f u b m k:=by
 intro d;induction d with
 | zero=>rfl
 | succ d ih =>
  rw[<-Nat.add_assoc];by_cases hk:k+d<(j7 a).length
  . rw[<-ih] at hm ⊢;have e:R3 l a f u b m (k+d+1)=R3 l a f u b m (k+d):=by
     unfold R3 at hm ⊢;rw[b95 hk,List.foldl_append];simp only[List.foldl_cons,List.foldl_nil];rw[if_neg fun e=>hm e.1]
    rw[e]
  . rw[<-ih];unfold R3;rw[List.take_of_length_le om,List.take_of_length_le om]
theorem jg1{l:List Int}{a f u b m k:Nat}(h:u≠l9 l)(hk:k<=(j7 a).length)(hm:k=(j7 a).length∨¬(R3 l a f u b m k).length<m):tlS l a (f+1) u b m=R3 l a f u b m k:=by
 rw[jo9 h];rcases hm with rfl | hm
 . rfl
 . have:=dx6 hm ((j7 a).length - k);rw[show k+((j7 a).length - k)=(j7 a).length by omega] at this;exact this
def tlI(l:List Int)(a m:Nat):Nat->Nat->Nat->List Nat->List Nat
 | 0,_,_,out=>out
 | f+1,u,b,out=>if u=l9 l then out++[b] else
  (j7 a).foldl (fun (out:List Nat) (x:Nat)=>if j6 l a (dF l u x) &&& u=0∧out.length<m then tlI l a m f (u ||| j6 l a (dF l u x)) (b ||| 2 ^ dF l u x) out else out) out
def b18(l:List Int)(a m f u b:Nat)(out:List Nat)(k:Nat):List Nat:=((j7 a).take k).foldl (fun (out:List Nat) (x:Nat)=>if j6 l a (dF l u x) &&& u=0∧out.length<m then tlI l a m f (u ||| j6 l a (dF l u x)) (b ||| 2 ^ dF l u x) out else out) out
theorem dh8{l:List Int}{a m f u b:Nat}{out:List Nat}(h:u=l9 l):tlI l a m (f+1) u b out=out++[b]:=by unfold tlI;rw[if_pos h]
theorem jo8{l:List Int}{a m f u b:Nat}{out:List Nat}(h:u≠l9 l):tlI l a m (f+1) u b out=b18 l a m f u b out (j7 a).length:=by
 unfold tlI b18;rw[if_neg h,List.take_length]
theorem j70{l:List Int}{a m f u b k:Nat}{out:List Nat}(hk:k<(j7 a).length)(h:j6 l a (dF l u (j7 a)[k]) &&& u=0)(hm:(b18 l a m f u b out k).length<m) :
 b18 l a m f u b out (k+1)=tlI l a m f (u ||| j6 l a (dF l u (j7 a)[k])) (b ||| 2 ^ dF l u (j7 a)[k]) (b18 l a m f u b out k):=by
 unfold b18 at hm ⊢;rw[b95 hk,List.foldl_append];simp only[List.foldl_cons,List.foldl_nil];rw[if_pos ⟨h,hm⟩]
theorem dh9{l:List Int}{a m f u b k:Nat}{out:List Nat}(hk:k<(j7 a).length)(h:¬(j6 l a (dF l u (j7 a)[k]) &&& u=0∧(b18 l a m f u b out k).length<m)) :
 b18 l a m f u b out (k+1)=b18 l a m f u b out k:=by
 unfold b18 at h ⊢;rw[b95 hk,List.foldl_append];simp only[List.foldl_cons,List.foldl_nil];rw[if_neg h]
theorem js9(l:List Int)(a m:Nat):∀f u b out,out.length<m->tlI l a m f u b out=out++tlS l a f u b (m - out.length):=by
 intro f;induction f with
 | zero=>intro u b out _;simp[tlI,tlS]
 | succ f ih =>
  intro u b out hm;by_cases h:u=l9 l
  . rw[dh8 h,cj5 h]
  . unfold tlI tlS;rw[if_neg h,if_neg h];have key:∀(L:List Nat) (oS:List Nat),L.foldl (fun (out:List Nat) (x:Nat)=>if j6 l a (dF l u x) &&& u=0∧out.length<m then tlI l a m f (u ||| j6 l a (dF l u x)) (b ||| 2 ^ dF l u x) out else out) (out++oS) =
     out++L.foldl (fun (o:List Nat) (x:Nat)=>if o.length<m - out.length∧j6 l a (dF l u x) &&& u=0 then o++tlS l a f (u ||| j6 l a (dF l u x)) (b ||| 2 ^ dF l u x) (m - out.length - o.length) else o) oS:=by
     intro L;induction L with
     | nil=>intro oS;rfl
     | cons x L ih2 =>
      intro oS;simp only[List.foldl_cons];by_cases hs:j6 l a (dF l u x) &&& u=0
      . by_cases hl:oS.length<m - out.length
        . rw[if_pos ⟨hs,by rw[List.length_append];omega⟩,if_pos ⟨hl,hs⟩,ih _ _ _ (by rw[List.length_append];omega),List.append_assoc,List.length_append,show m - (out.length+oS.length)=m - out.length - oS.length by omega];exact ih2 _
        . rw[if_neg (by rw[List.length_append];intro e;omega),if_neg fun e=>hl e.1];exact ih2 _
      . rw[if_neg fun e=>hs e.1,if_neg fun e=>hs e.2];exact ih2 _
    have:=key (j7 a) [];simpa using this
theorem dt0{l:List Int}(hg:j1 l=true){a u:Nat}(ha:a≠0)(ha2:a<2 ^ ord l)(hu:u<2 ^ ord l)(d:Nat)(h:j6 l a d &&& u=0) :
 u ||| j6 l a d<2 ^ ord l∧cnt u<cnt (u ||| j6 l a d):=by
 have hs:=Y5 (m9 hg) a d;have h1:=Nat.or_lt_two_pow hu hs;have hp:=C4 hg;refine⟨h1,(bt1 (nlt h1 hp) (fun i hi=>by rw[Nat.testBit_or,hi];rfl) fun e=>?_).2⟩;have hc:cnt (j6 l a d)≠0:=by
  rw[b78 hg ha2];have:=R6 (Nat.pos_of_ne_zero ha) (nlt ha2 hp);omega
 obtain⟨i,hi⟩:=b90 (d74 hc);have h3:u.testBit i=true:=by rw[e,Nat.testBit_or,hi];simp
 have h4:(j6 l a d &&& u).testBit i=true:=by rw[Nat.testBit_and,hi,h3];rfl
 rw[h,Nat.zero_testBit] at h4;cases h4
def P8(l:List Int)(a m:Nat):List Nat:=tlS l a (ord l+1) a 1 m
theorem bh5(l:List Int)(a:Nat):∀f u b m,1<=m->(tlS l a f u b m).length<=m:=by
 intro f;induction f with
 | zero=>intro u b m _;simp[tlS]
 | succ f ih =>
  intro u b m hm;unfold tlS;split
  . simpa using hm
  . have key:∀(L:List Nat) (oS:List Nat),oS.length<=m->(L.foldl (fun (o:List Nat) (x:Nat)=>if o.length<m∧j6 l a (dF l u x) &&& u=0 then o++tlS l a f (u ||| j6 l a (dF l u x)) (b ||| 2 ^ dF l u x) (m - o.length) else o) oS).length<=m:=by
     intro L;induction L with
     | nil=>intro oS h;exact h
     | cons x L ih2 =>
      intro oS h;simp only[List.foldl_cons];refine ih2 _ ?_;split
      . next h3=>have:=ih (u ||| j6 l a (dF l u x)) (b ||| 2 ^ dF l u x) (m - oS.length) om;rw[List.length_append];omega
      . exact h
    exact key _ _ zm
def ftB(l:List Int)(a:Int):Bool:=B9 l a && !(P8 l a.toNat 1).isEmpty
def ftV(l:List Int)(a:Int):Int:=if ftB l a then (((P8 l a.toNat 1).headD 0:Nat):Int) else 0
theorem d39{l:List Int}{a:Int}(h:B9 l a=false):ftB l a=false∧ftV l a=0:=by
 have e:ftB l a=false:=by unfold ftB;rw[h];rfl
 exact⟨e,by unfold ftV;rw[e];rfl⟩
theorem j10{l:List Int}{n:Nat}(h:P8 l n 1=[]):ftB l n=false∧ftV l n=0:=by
 have e:ftB l n=false:=by unfold ftB;rw[show ((n:Int)).toNat=n from rfl,h];simp
 exact⟨e,by unfold ftV;rw[e];rfl⟩
theorem j11{l:List Int}{n:Nat}(h1:B9 l n=true){x:Nat}{L:List Nat}(h:P8 l n 1=x :: L):ftB l n=true∧ftV l n=(x:Int):=by
 have e:ftB l n=true:=by unfold ftB;rw[h1,show ((n:Int)).toNat=n from rfl,h];rfl
 exact⟨e,by unfold ftV;rw[e,show ((n:Int)).toNat=n from rfl,h];rfl⟩
def b86(x y:Value):Prop:=∀k,x.ownBlock=some k->y.ownBlock≠some k
theorem b86.symm{x y:Value}(h:b86 x y):b86 y x:=fun k hk e=>h k e hk
theorem b86.or{x y:Value}(h:b86 x y):x.ownBlock=none∨x.ownBlock≠y.ownBlock:=by
 cases hx:x.ownBlock with
 | none=>exact Or.inl rfl
 | some k=>exact Or.inr fun e=>h k hx e.symm
structure Own4(w0 w:World)(v1 v2 v3 v4:Value)(g o t q:List Int):Prop where
 h1:Own 3 w0 w v1 g
 h2:Own 3 w0 w v2 o
 h3:Own 3 w0 w v3 t
 h4:Own 3 w0 w v4 q
 d12:b86 v1 v2
 d13:b86 v1 v3
 d14:b86 v1 v4
 d23:b86 v2 v3
 d24:b86 v2 v4
 d34:b86 v3 v4
theorem Own4.ext{w0 w w':World}{v1 v2 v3 v4:Value}{g o t q:List Int}(h:Own4 w0 w v1 v2 v3 v4 g o t q)(hE:Ext w w'):Own4 w0 w' v1 v2 v3 v4 g o t q :=
 ⟨h.h1.ext hE,h.h2.ext hE,h.h3.ext hE,h.h4.ext hE,h.d12,h.d13,h.d14,h.d23,h.d24,h.d34⟩
theorem Own4.mono{w0 w1 w:World}{v1 v2 v3 v4:Value}{g o t q:List Int}(h:Own4 w1 w v1 v2 v3 v4 g o t q)(hE:Ext w0 w1):Own4 w0 w v1 v2 v3 v4 g o t q :=
 ⟨h.h1.mono hE,h.h2.mono hE,h.h3.mono hE,h.h4.mono hE,h.d12,h.d13,h.d14,h.d23,h.d24,h.d34⟩
structure Ints4(w:World)(v1 v2 v3 v4:Value)(g o t q:List Int):Prop where
 g:c9 w v1 g
 o:c9 w v2 o
 t:c9 w v3 t
 q:c9 w v4 q
theorem Ints4.ext{w w':World}{v1 v2 v3 v4:Value}{g o t q:List Int}(h:Ints4 w v1 v2 v3 v4 g o t q)(hE:Ext w w'):Ints4 w' v1 v2 v3 v4 g o t q :=
 ⟨h.g.ext hE,h.o.ext hE,h.t.ext hE,h.q.ext hE⟩
theorem Own4.ints{w0 w:World}{v1 v2 v3 v4:Value}{g o t q:List Int}(h:Own4 w0 w v1 v2 v3 v4 g o t q):Ints4 w v1 v2 v3 v4 g o t q:=⟨h.h1.ints,h.h2.ints,h.h3.ints,h.h4.ints⟩
theorem Own.kept_low{TI:TypeId}{w0 w w':World}{v:Value}{l:List Int}{row:Option Nat}(h:Own TI w0 w v l)(hg:w.grownBy w' row)(hr:∀k,row=some k->k<w0.heap.size):Own TI w0 w' v l :=
 h.kept hg (by
  cases hq:v.ownBlock with
  | none=>exact Or.inl rfl
  | some k=>exact Or.inr fun e=>by have:=hr k e.symm;have:=(h.blk k hq).1;omega)
theorem Own4.kept{w0 w w':World}{v1 v2 v3 v4:Value}{g o t q:List Int}{row:Option Nat}(h:Own4 w0 w v1 v2 v3 v4 g o t q)(hg:w.grownBy w' row)(hr:∀k,row=some k->k<w0.heap.size):Own4 w0 w' v1 v2 v3 v4 g o t q :=
 ⟨h.h1.kept_low hg hr,h.h2.kept_low hg hr,h.h3.kept_low hg hr,h.h4.kept_low hg hr,h.d12,h.d13,h.d14,h.d23,h.d24,h.d34⟩
end Go.Zz
