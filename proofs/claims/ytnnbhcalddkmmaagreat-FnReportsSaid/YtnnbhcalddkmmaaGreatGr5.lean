/- The table of sums of the reference; kept counts. -/
import Derived.Test.YtnnbhcalddkmmaaGreatGr4
import Derived.Laws.OwnMore
set_option linter.unusedSimpArgs false
set_option linter.unusedVariables false
set_option linter.unnecessarySimpa false
set_option maxHeartbeats 2000000
set_option maxRecDepth 20000
namespace Go.Zz
open Go.RowKit Go.Proofs
theorem bb7{w:World}{p:Addr}{x:Value}(h:w.cell? p=some x)(U:World):(Lat w U).cell? p=some x:=(d5 w U).cell h
theorem by6(v:Value)(l:List Int)(a b:Int)(w:World)(h:c9 w v l) :
 Calls Tryz.prog 189 #[.agg #[v],.int .i64 a,.int .i64 b] w fun e w'=>∃u,e=.returned u∧Own 3 w w' u (by0 l a b)∧Ext w w':=by
 obtain⟨wb,Hwb,hE0,hb,hg,hE,Hsz⟩:=ju3 28 h;clear h;have hbx:=hb wb hE;cases hs:(j4 l a&&j4 l b)
 . have Hs:=zh (ds8 hs);cases h1:j4 l a
   . go_in;go_wp2_with fail;rw[<-Hwb.out];try rw[Hsz.out]
     go_wp2_with (first | (go_at_call 46;refine cx (l8 _ _ _ _ (hg _ hE) (h1)) hE ?_;clear hE;intro w' hE));exact zz111
   . have h2:j4 l b=false:=(by simpa[h1] using hs);clear hs;go_in;go_wp2_with fail;rw[<-Hwb.out];try rw[Hsz.out]
     go_wp2_with (first | (go_at_call 46;(first | (with_reducible refine Calls.mono (l8 _ _ a _ (hg _ hE) h1) ?_) | (with_reducible refine Calls.mono (l8 _ _ b _ (hg _ hE) h2) ?_));rintro e w' ⟨rfl,hE'⟩;replace hE:=hE.trans hE';clear hE'));exact zz111
 . obtain⟨h1,h2⟩:=Bool.and_eq_true_iff.1 hs;obtain⟨a,rfl,-,ha,hgr⟩:=o4 h1;obtain⟨b,rfl,-,hb',-⟩:=o4 h2;have Hs:=zh (cj3 hs);have Hgr:=zh hgr;have hob:=m8 hgr;clear hs hgr;go_in;go_wp2_with fail;rw[<-Hwb.out];try rw[Hsz.out]
   go_wp2_with (first | (go_at_call 46;(first | (with_reducible refine Calls.mono (l8 _ _ (a:Int) _ (hg _ hE) h1) ?_) | (with_reducible refine Calls.mono (l8 _ _ (b:Int) _ (hg _ hE) h2) ?_));rintro e w' ⟨rfl,hE'⟩;replace hE:=hE.trans hE';clear hE') | (go_at_call 43;refine cx (o5 _ _ _ (hg _ hE) (Hgr)) hE ?_;clear hE;intro w' hE) | (at_make;refine X5 slI rfl _ _ rfl wb _ (ord l) rfl rfl om hE ?_;intro w2 hO hE2));rename_i hgd;refine (M6 a ha _).mono ?_;rintro e w1 ⟨v1,rfl,hL,hE1⟩;obtain⟨aoL,cL,rfl⟩:=hL.nshape;go_wp2_with fail;refine (M6 b hb' _).mono ?_;rintro e w3 ⟨v3,rfl,hM,hE3⟩;obtain⟨aoM,cM,rfl⟩:=hM.nshape;obtain⟨g,hgd⟩:=nq (w'.heap.size);rw[<-hgd] at hO ⊢;clear hgd;obtain⟨_,hge,hg1,hg2⟩:=hO.row zm om;simp only[Option.some.injEq,Addr.mk.injEq,and_true] at hge;subst hge;have hg3:g<w1.heap.size:=nlt hg2 hE1.size;replace hO:=(hO.ext hE1).ext hE3;replace hL:=hL.ext hE3;replace hE:=hE2.trans (hE1.trans hE3);have hixO:=W4 g (ord l) (ord l);have hall:∀y∈j7 a,y<24:=fun y hy=>I9 hy;have hlen:=B7 a;have hallM:∀y∈j7 b,y<24:=fun y hy=>I9 hy;have hlenM:=B7 b;clear hE1 hE2 hE3 h1 h2 hbx;obtain⟨M,hMd⟩:=nq (j7 b);rw[<-hMd] at hM hallM hlenM ⊢;have HMd:=zh hMd;clear hMd;generalize j7 a=L at hL hall hlen Hs ⊢;go_wp2_with fail;go_loopw [10] (fun i wr=>∃k:Nat,k<=L.length∧i=.int .i64 k∧Own 3 wb wr (.slice (some ⟨g,0,none⟩) (ord l) (ord l)) (H4 l b (List.replicate (ord l) 0) (L.take k))∧Own 3 w2 wr (.slice aoL L.length cL) (b9 L)∧Own 3 w1 wr (.slice aoM M.length cM) (b9 M)∧Ext wb wr) (fun i _=>L.length - (intOf i).toNat);(case atStart=>exact⟨0,om,rfl,hO,hL,hM,hE⟩);case round =>
    clear hE hO hL hM;obtain⟨k,hk,rfl,hO,hL,hM,hE⟩:=hrel;by_cases hlt:k<L.length
    . have hx24:=hall _ (o6 hlt);have Hsn:=zh (cd0 l b (List.replicate (ord l) 0) (L.take k) (d8 L k));have Htk:=zh (I8 L k hlt);have hLk:(L.take k).length<=24:=(by rw[List.length_take];omega);go_wp2_with fail;go_loopw [11] (fun i wq=>∃j:Nat,j<=M.length∧i=.int .i64 j∧Own 3 wb wq (.slice (some ⟨g,0,none⟩) (ord l) (ord l)) (P6 l (d8 L k) (H4 l b (List.replicate (ord l) 0) (L.take k)) (M.take j))∧Own 3 w2 wq (.slice aoL L.length cL) (b9 L)∧Own 3 w1 wq (.slice aoM M.length cM) (b9 M)∧Ext wb wq) (fun i _=>M.length - (intOf i).toNat);(case atStart=>exact⟨0,om,rfl,hO,hL,hM,hE⟩);case round =>
       clear hE hO hL hM;obtain⟨j,hj,rfl,hO,hL,hM,hE⟩:=hrel;by_cases hlt2:j<M.length
       . obtain⟨gL,rfl,-,-⟩:=hL.row (j2 L) om;have hcL:=bb7 (hL.cellAt (j2 L) hlt).1;rw[bl6] at hcL;have hixL:=W4 gL L.length cL;obtain⟨gM,rfl,-,-⟩:=hM.row (j2 M) om;have hcM:=bb7 (hM.cellAt (j2 M) hlt2).1;rw[bl6] at hcM;have hixM:=W4 gM M.length cM;have hbx:=bb7 (hb _ hE);have hy24:=hallM _ (o6 hlt2);have Hsn2:=zh (cp6 l (d8 L k) (H4 l b (List.replicate (ord l) 0) (L.take k)) (M.take j) (d8 M j));have Htk2:=zh (I8 M j hlt2);have hMj:(M.take j).length<=24:=(by rw[List.length_take];omega);have hfit:=dh4 Hgr.out (b:=b) (x:=d8 L k) hLk hMj (m6 l (d8 L k) (d8 M j));have hzo:=F2 l (m9 Hgr.out) (d8 L k) (d8 M j);have hT:Hid ((P6 l (d8 L k) (H4 l b (List.replicate (ord l) 0) (L.take k)) (M.take j)).length=ord l):=zh (by rw[be2,bg3];simp);generalize P6 l (d8 L k) (H4 l b (List.replicate (ord l) 0) (L.take k)) (M.take j)=T at hO hfit Hsn2 hT;have hEb:=hE;clear hE;have hE:=er wr;go_wp2_with fail;(refine wl hE ?_);(repeat (go_big_quiet_step (first | (go_at_call 190;exact Calls.lat (G5 _ _ _ _ _ ((hg _ (hEb.trans (d5 wr _)))) (Hgr) (om) (om))))));(refine zd ?_);(clear hE);(intro W hE);replace hO:=hO.ext hE;replace hL:=hL.ext hE;replace hM:=hM.ext hE;replace hEb:=hEb.trans hE;obtain⟨hzc,hzf⟩:=hO.cellAt hT.out hzo;clear hE hcL hcM hbx hixL hixM;go_wp2_with fail;go_roundw;case rel =>
          refine⟨j+1,om,zg,?_,hL.setCell_below hg2 _,hM.setCell_below hg3 _,hEb.setCell hg1 _⟩;rw[Htk2.out,Hsn2.out];exact (hO.stored_grown hT.out _ _).1
         case measure=>exact zm1
       . have hkl:j=M.length:=(by omega);subst hkl;have hO':Own 3 wb wr (.slice (some ⟨g,0,none⟩) (ord l) (ord l)) (H4 l b (List.replicate (ord l) 0) (L.take (k+1))):=by
          rw[Htk.out,Hsn.out,<-HMd.out];rw[List.take_length] at hO;exact hO
         go_wp2_with fail;go_roundw;(case rel=>exact⟨k+1,om,zg,hO',hL,hM,hE⟩);case measure=>exact zm1
    . have hkl:k=L.length:=(by omega);subst hkl;rw[List.take_length,<-Hs.out] at hO;exact zz86
theorem Own.kept{TI:TypeId}{w0 w w':World}{v:Value}{l:List Int}{row:Option Nat}(h:Own TI w0 w v l)(hg:w.grownBy w' row)(hne:v.ownBlock=none∨v.ownBlock≠row):Own TI w0 w' v l :=
 ⟨h.1.kept hg hne,h.2⟩
def bf2(w0 w:World)(c:Value)(l:List Int)(n:Int)(m:List Int):Prop :=
 ∃v u,c=.agg #[v,.int .i64 n,u]∧Own 3 w0 w v l∧Own 3 w0 w u m∧(v.ownBlock=none∨v.ownBlock≠u.ownBlock)
theorem bf2.mono{w0 w1 w:World}{c:Value}{l m:List Int}{n:Int}(h:bf2 w1 w c l n m)(hE:Ext w0 w1):bf2 w0 w c l n m:=by
 obtain⟨v,u,rfl,h1,h2,h3⟩:=h;exact⟨v,u,rfl,h1.mono hE,h2.mono hE,h3⟩
theorem bf2.ext{w0 w w':World}{c:Value}{l m:List Int}{n:Int}(h:bf2 w0 w c l n m)(hE:Ext w w'):bf2 w0 w' c l n m:=by
 obtain⟨v,u,rfl,h1,h2,h3⟩:=h;exact⟨v,u,rfl,h1.ext hE,h2.ext hE,h3⟩
theorem F8(v:Value)(l:List Int)(w:World)(h:c9 w v l) :
 Calls Tryz.prog 212 #[v] w fun e w'=>∃v',e=.returned v'∧Own 3 w w' v' l∧Ext w w':=by
 have hO:=m7 (TI:=3) (n:=0) om (er w) [] rfl;have hE:=(er w).alloc (.cells #[] 3);have hI:=h.ext hE;obtain⟨ao,c,rfl,hc,hlen,-⟩:=h;go_in;go_wp2_with (at_builtin;refine I2 slI rfl _ _ rfl w _ _ _ _ _ hO hI hE (by simpa using hlen) rfl rfl ?_;intro v1 w1 hO1 hE1);go_ret;exact⟨_,rfl,by simpa using hO1,hE1⟩
theorem Blk.grown{w w':World}{b:Nat}{T:TypeId}{cs:Array Value}{row:Option Nat}(h:Blk w b T cs)(hg:w.grownBy w' row)(hne:∀k,row=some k->k≠b):Blk w' b T cs:=by
 unfold Blk;rw[hg.block b h.lt (by
  cases row with
  | none=>simp
  | some k=>simp;exact fun e=>hne k rfl (by first | exact e | exact e.symm))]
 exact h
theorem bf2.kept{w0 w w':World}{c:Value}{l m:List Int}{n:Int}{row:Option Nat}(h:bf2 w0 w c l n m)(hg:w.grownBy w' row)(hr:∀k,row=some k->k<w0.heap.size):bf2 w0 w' c l n m:=by
 obtain⟨v,u,rfl,hv,hu,hd⟩:=h;have key:∀{x:Value} {ll:List Int},Own 3 w0 w x ll->Own 3 w0 w' x ll:=fun {x ll} hx=>hx.kept hg (by
  cases hq:x.ownBlock with
  | none=>exact Or.inl rfl
  | some k=>exact Or.inr fun e=>by have:=hr k e.symm;have:=(hx.blk k hq).1;omega)
 exact⟨v,u,rfl,key hv,key hu,hd⟩
def Oth(TI:TypeId)(w w':World):Prop:=∀b T cs,T≠TI->Blk w b T cs->Blk w' b T cs
theorem Oth.refl(TI:TypeId)(w:World):Oth TI w w:=fun _ _ _ _ h=>h
theorem Oth.trans{TI:TypeId}{a b c:World}(h:Oth TI a b)(k:Oth TI b c):Oth TI a c:=fun b T cs hT hB=>k b T cs hT (h b T cs hT hB)
theorem Ext.oth{w w':World}(h:Ext w w')(TI:TypeId):Oth TI w w':=fun _ _ _ _ hB=>hB.ext h
theorem bs1{TI T:TypeId}{w0 w:World}{v:Value}{l:List Int}(h:Own TI w0 w v l){g:Nat}{cs:Array Value}(hB:Blk w g T cs)(hT:T≠TI):v.ownBlock≠some g:=fun e=>by
 obtain⟨h1,h2⟩:=h
 rcases h1.2 with ⟨rfl,_⟩ | ⟨g',cap,cur,rfl,_,hh,_⟩
 . cases e
 . simp[Value.ownBlock] at e
   subst e
   have hB':w.heap[g']?=some (.cells cs T (0,0)):=hB
   rw[hB'] at hh
   simp at hh
   exact hT hh.2
theorem j36{TI:TypeId}{w0 w w':World}{v:Value}{l:List Int}(h:Own TI w0 w v l)(hg:w.grownBy w' v.ownBlock):Oth TI w w':=fun b T cs hT hB =>
 hB.grown hg fun k hk e=>bs1 h hB hT (by rw[hk,e])
theorem zz154{P:Prop}(h:P:=by have hB':w.heap[g]?=some (.cells #[] TI (0,0)):=hB;exact⟨zm,Or.inr ⟨g,0,#[],rfl,h0,hB',Nat.le_refl _,Nat.zero_le _,zm,zm⟩⟩):P:=h
theorem c48{P:Program}{T TI:TypeId}(hT:IntSl P T TI)(ty:TypeId)(wb w0 w:World)(v u:Value)(l m:List Int)(hO:J3 TI wb w0 w v l)(hI:c9 w u m)(hE:Ext w0 w)(hn:l.length+m.length<=17592186044416) :
 ∃v' w',(Builtin.append_ #[T,T] ty #[v,u]).run P w=.ok v' w'∧J3 TI wb w0 w' v' (l++m)∧Ext w0 w'∧Oth TI w w':=by
 obtain⟨i,hi,hz,hs1,hby⟩:=hT.info;obtain⟨ao,c,rfl,hmc,hml,hc⟩:=hI;cases ao with
 | none =>
  have hm:m=[]:=by
   cases m with
   | nil=>rfl
   | cons y m=>obtain⟨_,h,_⟩:=hc 0 zm;cases h
  subst hm;refine⟨v,w,?_,by simpa using hO,hE,Oth.refl _ _⟩;rcases hO with ⟨g,-,rfl,rfl,hB⟩ | hO
  . simp[Builtin.append_,run_underlying hT.und,sizeOf,typeInfo,hi,Builtin.lenOf,Builtin.firstCells,storeCells,Result.andThen]
  . rcases hO.1.2 with ⟨rfl,_⟩ | ⟨g,cap,cur,rfl,_,_,hnc,_⟩
    . exact zz186
    . simp[Builtin.append_,run_underlying hT.und,sizeOf,typeInfo,hi,Builtin.lenOf,Builtin.firstCells,hnc,storeCells,Result.andThen]
 | some ad =>
  have hnews:∀j u,(m.map (Value.int .i64))[j]?=some u->w.cell? (ad.add j)=some u:=by
   exact zz116
  rcases hO with ⟨g,h0,rfl,rfl,hB⟩ | hO
  . by_cases hm:m=[]
    . subst hm;have hown:w.ownsRow wb.heap.size TI 1 (.slice (some ⟨g,0,none⟩) 0 0) 0 []:=by
       exact zz154
      refine⟨_,w,?_,Or.inl ⟨g,h0,rfl,rfl,hB⟩,hE,Oth.refl _ _⟩;have hrun:=run_append_owned_none (P:=P) w wb.heap.size T ty TI i 1 hT.und hi (.slice (some ⟨g,0,none⟩) 0 0) 0 [] hown;rw[<-hrun];simp[Builtin.append_,run_underlying hT.und,sizeOf,typeInfo,hi,Builtin.lenOf,Builtin.firstCells,go_sem]
    . have hpos:0<m.length:=Nat.pos_of_ne_zero (fun e=>hm (List.eq_nil_of_length_eq_zero e));obtain⟨v',w',hrun,r1,r2⟩:=run_append_arg_grows (P:=P) (w:=w) T ty TI i (.int .i64 0) 1 8 hT.und hi hz hs1 hby rfl om ⟨g,0,none⟩ 0 0 [] zm zm ad m.length c (m.map (Value.int .i64)) zm hnews om (by unfold maxLen;omega) om;have hO':Own TI w w' v' m:=⟨by simpa using r1,hml⟩;have hE2:Ext w w':=(er w).grown r2 zm;exact⟨v',w',hrun,Or.inr (by simpa using hO'.mono hE),hE.trans hE2,hE2.oth TI⟩
  . obtain⟨v',w',hrun,r1,r2,-⟩:=run_append_own (P:=P) w w0.heap.size T ty TI i (.int .i64 0) 1 8 hT.und hi hz hs1 hby rfl om v l.length _ hO.1 ad m.length c (m.map (Value.int .i64)) zm hnews (ints_oneCell _ _) (by unfold maxLen;omega) om hE.size;exact⟨v',w',hrun,Or.inr ⟨by simpa using r1,by simp;omega⟩,hE.grown r2 fun k hk=>(hO.blk k hk).1,j36 hO r2⟩
theorem zz72{P:Prop}(h:P:=by unfold Oper.wp;simp[execOp,hop,resolve,invoke,builtin,hs,hx,hrun,Result.andThen];exact hK v' w' h1 h2 h3):P:=h
theorem q9{P:Program}{ops:Array Oper}{o:Oper}{a:Act}{w:World}{K:Act->World->Prop}{Q:Exit->Act->World->Prop}{E:Prop}{T TI:TypeId}(hT:IntSl P T TI)
 (hg:o.guard=none) (s x:Operand) (hop:o.op=Op.call { callee:=Callee.builtin Builtin.append,args:=#[s,x],argTypes:=#[T,T] })
 (wb w0:World) (v u:Value) (l m:List Int) (hO:J3 TI wb w0 w v l) (hI:c9 w u m) (hE:Ext w0 w) (hn:l.length+m.length<=17592186044416) (hs:a.eval s=v) (hx:a.eval x=u)
 (hK:∀v' w',J3 TI wb w0 w' v' (l++m)->Ext w0 w'->Oth TI w w'->K (a.put o.dst v') w') :
 if Region.wanted o (yielded ops a.tmps)=true then Oper.wp P o a w K Q else E:=by
 have hw:Region.wanted o (yielded ops a.tmps)=true:=by simp[Region.wanted,hg]
 rw[if_pos hw];obtain⟨v',w',hrun,h1,h2,h3⟩:=c48 hT o.type wb w0 w v u l m hO hI hE hn;exact zz72
section
variable {P:Program} {ops:Array Oper} {rest:List Oper} {o:Oper} {a:Act} {Q:Exit->Act->World->Prop} {T TI:TypeId}
end
theorem j38{TI:TypeId}{w0 w:World}{v:Value}{l:List Int}{b:Nat}(h:Own TI w0 w v l)(hb:b<w0.heap.size):v.ownBlock≠some b:=fun e=>by have:=(h.blk b e).1;omega
structure Fr(b:Nat)(o:Option Nat)(w w':World):Prop where
 os:w'.os=w.os
 tape:w'.tape=w.tape
 output:w'.output=w.output
 size:w.heap.size<=w'.heap.size
 block:∀k,k<w.heap.size->k≠b->some k≠o->w'.heap[k]?=w.heap[k]?
def Nw(o:Option Nat)(w:World)(o':Option Nat):Prop:=o'=o∨∀k,o'=some k->w.heap.size<=k
theorem Fr.refl(b:Nat)(o:Option Nat)(w:World):Fr b o w w:=⟨rfl,rfl,rfl,Nat.le_refl _,fun _ _ _ _=>rfl⟩
theorem Nw.refl(o:Option Nat)(w:World):Nw o w o:=Or.inl rfl
theorem Fr.trans{b:Nat}{o o1:Option Nat}{w w1 w2:World}(h:Fr b o w w1)(hn:Nw o w o1)(k:Fr b o1 w1 w2):Fr b o w w2 :=
 ⟨k.os.trans h.os,k.tape.trans h.tape,k.output.trans h.output,nle h.size k.size,fun i hi hb ho=>by
  rw[k.block i (nlt hi h.size) hb fun e=>?_,h.block i hi hb ho]
  rcases hn with hn | hn
  . rw[hn] at e;exact ho e
  . have:=hn i e.symm;omega⟩
theorem Nw.trans{o o1 o2:Option Nat}{w w1:World}(h:Nw o w o1)(hs:w.heap.size<=w1.heap.size)(k:Nw o1 w1 o2):Nw o w o2:=by
 rcases k with k | k
 . rw[k];exact h
 . exact Or.inr fun i hi=>nle hs (k i hi)
theorem Ext.fr{w w':World}(h:Ext w w')(b:Nat)(o:Option Nat):Fr b o w w':=⟨h.os,h.tape,h.output,h.size,fun k hk _ _=>h.block k hk⟩
theorem bi8{b:Nat}{o:Option Nat}{w w':World}(h:w.grownBy w' o):Fr b o w w':=⟨h.os,h.tape,h.output,h.size,fun k hk _ ho=>h.block k hk ho⟩
theorem b96(b:Nat)(o:Option Nat)(w:World)(i:Nat)(v:Value):Fr b o w (w.setCell ⟨b,i,none⟩ v) :=
 ⟨rfl,rfl,rfl,zm,fun k _ hb _=>Below.heap_setCell _ _ _ _ (fun e=>hb e)⟩
theorem Fr.ext{b:Nat}{o:Option Nat}{w0 w w':World}(h:Fr b o w w')(hE:Ext w0 w)(hb:w0.heap.size<=b)(ho:∀k,o=some k->w0.heap.size<=k):Ext w0 w':=by
 have hs:=hE.size;refine⟨h.os.trans hE.os,h.tape.trans hE.tape,h.output.trans hE.output,nle hs h.size,fun k hk=>?_⟩;rw[h.block k (nlt hk hs) om fun e=>by have:=ho k e.symm;omega];exact hE.block k hk
theorem Fr.blk{b:Nat}{o:Option Nat}{w w':World}(h:Fr b o w w'){c:Nat}{T:TypeId}{cs:Array Value}(hB:Blk w c T cs)(hc:c≠b)(ho:o≠some c):Blk w' c T cs:=by
 unfold Blk;rw[h.block c hB.lt hc fun e=>ho e.symm];exact hB
theorem Fr.own{b:Nat}{o:Option Nat}{w w':World}(h:Fr b o w w'){TI:TypeId}{w0:World}{v:Value}{l:List Int}(hO:Own TI w0 w v l)(h1:v.ownBlock≠some b)(h2:v.ownBlock=none∨v.ownBlock≠o):Own TI w0 w' v l:=by
 obtain⟨⟨hl,hr⟩,hn⟩:=hO;refine⟨⟨hl,?_⟩,hn⟩;rcases hr with hr | ⟨g,cap,cur,rfl,hg,hh,rest⟩
 . exact Or.inl hr
 . refine Or.inr ⟨g,cap,cur,rfl,hg,?_,rest⟩;simp[Value.ownBlock] at h1 h2;rw[h.block g (Array.getElem?_eq_some_iff.1 hh).1 h1 h2];exact hh
theorem c47{P:Program}{T TI:TypeId}(hT:IntSl P T TI)(ty:TypeId)(w0 w:World)(v:Value)(l:List Int)(y:Int)(ad:Addr)(hO:Own TI w0 w v l)(hE:Ext w0 w)(hy:∀j u,[Value.int .i64 y][j]?=some u->w.cell? (ad.add j)=some u)(hn:l.length<17592186044416) :
 ∃v' w',(Builtin.append_ #[T,T] ty #[v,.slice (some ad) 1 1]).run P w=.ok v' w'∧Own TI w0 w' v' (l++[y])∧w.grownBy w' v.ownBlock∧Nw v.ownBlock w v'.ownBlock:=by
 obtain⟨i,hi,hz,hs1,hby⟩:=hT.info;have h1:=hO.1;rcases h1.2 with ⟨rfl,hl⟩ | ⟨g,cap,cur,rfl,hg,hh,hnc,hcm,hcs,htk⟩
 . have hl':l=[]:=List.eq_nil_of_length_eq_zero hl;subst hl';obtain⟨v',w',hrun,r1,r2,-⟩:=run_append_own (P:=P) w w.heap.size T ty TI i (.int .i64 0) 1 8 hT.und hi hz hs1 hby rfl om (.slice none 0 0) 0 [] (World.ownsRow_nil _ _ _ _) ad 1 1 [.int .i64 y] rfl hy (by simp[Value.oneCell']) (by unfold maxLen;omega) om (Nat.le_refl _);have hO':Own TI w w' v' [y]:=⟨by simpa using r1,zm⟩;exact⟨v',w',hrun,by simpa using hO'.mono hE,r2,Or.inr fun k hk=>(hO'.blk k hk).1⟩
 . by_cases hroom:l.length+1<=cap
   . obtain⟨w',hrun,r1,r2⟩:=run_append_fits (P:=P) w w0.heap.size T ty TI i 1 hT.und hi hs1 g l.length cap _ h1 ad 1 1 [.int .i64 y] rfl hy (by simp[Value.oneCell']) hroom;exact⟨_,w',hrun,⟨by simpa using r1,by simp;omega⟩,r2,Or.inl rfl⟩
   . obtain⟨v',w',hrun,r1,r2⟩:=run_append_arg_grows (P:=P) (w:=w) T ty TI i (.int .i64 0) 1 8 hT.und hi hz hs1 hby rfl om ⟨g,0,none⟩ l.length cap (l.map (Value.int .i64)) zm (by
      intro j u hu;have hj:j<l.length:=(by have:=(List.getElem?_eq_some_iff.1 hu).1;simpa using this);rw[Addr.add_lit,Nat.zero_add,World.ownsRow.cellAt h1 j om];simpa using hu) ad 1 1 [.int .i64 y] rfl hy om (by unfold maxLen;omega) om
     have hO':Own TI w w' v' (l++[y]):=⟨by simpa using r1,by simp;omega⟩
     exact⟨v',w',hrun,hO'.mono hE,⟨r2.os,r2.tape,r2.output,r2.size,fun k hk _=>r2.block k hk zm⟩,Or.inr fun k hk=>(hO'.blk k hk).1⟩
section
variable {P:Program} {ops:Array Oper} {rest:List Oper} {o:Oper} {a:Act} {Q:Exit->Act->World->Prop} {T TI:TypeId}
theorem zz185{P:Prop}(h:P:=by rw[h2.block k (nlt hk e.size) hne];exact e.block k hk):P:=h
theorem K9(hT:IntSl P T TI)(hg:o.guard=none)(s x:Operand)(hop:o.op=Op.call { callee:=Callee.builtin Builtin.append,args:=#[s,x],argTypes:=#[T,T] })
 (w0 W:World) (v:Value) (l:List Int) (y:Int) (hO:Own TI w0 W v l) (hE:Ext w0 W) (hn:l.length<17592186044416) (hs:a.eval s=v) (hx:a.eval x=.slice (some ⟨W.heap.size,0,none⟩) 1 1)
 (hK:∀v' w',Own TI w0 w' v' (l++[y])->W.grownBy w' v.ownBlock->Nw v.ownBlock W v'.ownBlock->wpList P ops Q rest (a.put o.dst v') w') :
 wpList P ops Q (o :: rest) a (W.alloc (.cells #[.int .i64 y] TI)):=by
 obtain⟨v',w',hrun,h1,h2,h3⟩:=c47 hT o.type w0 (W.alloc (.cells #[.int .i64 y] TI)) v l y ⟨W.heap.size,0,none⟩ (hO.alloc _) (hE.alloc _) (cell_one_new _ _ _) hn;refine wpList_plain hg fun K hK'=>?_;unfold Oper.wp;simp[execOp,hop,resolve,invoke,builtin,hs,hx,hrun,Result.andThen];have e:Ext W (W.alloc (.cells #[.int .i64 y] TI)):=(er W).alloc _;refine hK' _ _ (hK v' w' h1 ⟨h2.os.trans e.os,h2.tape.trans e.tape,h2.output.trans e.output,nle e.size h2.size,fun k hk hne=>?_⟩ ?_)
 . exact zz185
 . rcases h3 with h3 | h3
   . exact Or.inl h3
   . exact Or.inr fun k hk=>nle e.size (h3 k hk)
end
theorem c91{x q s u:Nat}(hs:s<24)(hq:2<=q)(hm:((q - x % q) % q)*u<=331776) :
 Value.int .i64 (wrap64 ((s:Int)+wrap64 ((((q:Int) - (x:Int) % (q:Int)) % (q:Int))*(u:Int))))=.int .i64 ((s+((q - x % q) % q)*u:Nat):Int):=by
 have h1:=Nat.mod_lt x (show 0<q by omega);have e1:(q:Int) - (x:Int) % (q:Int)=((q - x % q:Nat):Int):=by rw[<-Int.natCast_emod];omega
 have e2:(((q - x % q:Nat):Int) % (q:Int))*(u:Int)=((((q - x % q) % q)*u:Nat):Int):=by rw[Int.natCast_mul,Int.natCast_emod]
 rw[e1,e2];generalize ((q - x % q) % q)*u=d at hm ⊢;rw[c95 d om,<-Int.natCast_add,c95 (s+d) om]
theorem zz126{P:Prop}(h:P:=by have hkl:k=l.length:=(by omega);subst hkl;go_wp2_with fail;go_ret;exact⟨o7 (by have:=Hs.out;rw[List.drop_length] at this;simp[p9] at this;omega),hE0.trans hE⟩):P:=h
theorem zz130{P:Prop}(h:P:=by first | exact c91 hsb om Hm1.out | (rw[show (-((x':Int) % (q:Int))) % (q:Int)=((q:Int) - (x':Int) % (q:Int)) % (q:Int) from by simp];exact c91 hsb om Hm1.out)):P:=h
theorem ba1(v:Value)(l:List Int)(x:Nat)(w:World)(h:c9 w v l)(Hgr:Hid (j1 l=true))(hx:x<16777216) :
 Calls Tryz.prog 307 #[.agg #[v],.int .i64 x] w fun e w'=>e=.returned (.int .i64 (p9 l x))∧Ext w w':=by
 obtain⟨ao,c,adr,rfl,hlen,hadr,hcell⟩:=h.op;have hix:=j3 (c:=c) elI szI hadr;clear hadr h;obtain⟨wb,hwb⟩:=nq (w.alloc (.cells #[.slice ao l.length c] 28));have hE0:=(er w).alloc (.cells #[.slice ao l.length c] 28);have hb:=j0 w (.slice ao l.length c) 28;rw[<-hwb] at hE0 hb;have hE:=er wb;have Hwb:=zh hwb;have hA:=bh1 Hgr.out x;have h3:=C6 Hgr.out;clear hwb;go_in;go_wp2_with fail;rw[<-Hwb.out];go_loopw [1,5,6,12] (fun xv sv uv i wr=>∃k x' s u:Nat,k<=l.length∧x'<=x∧s+u*p9 (l.drop k) x'=p9 l x∧(u:Int)=A0 (l.take k)∧xv=.int .i64 x'∧sv=.int .i64 s∧uv=.int .i64 u∧i=.int .i64 k∧Ext wb wr) (fun _ _ _ i _=>l.length - (intOf i).toNat);case atStart=>exact⟨0,x,0,1,om,om,zm,by simp[A0],rfl,rfl,rfl,rfl,hE⟩
 case round =>
  clear hE;obtain⟨k,x',s,u,hk,hx',hs,hu,rfl,rfl,rfl,rfl,hE⟩:=hrel;have hbx:=hb wr hE;have hsb:=c69 hs hA;obtain⟨hu1,hu2⟩:=b07 k l hk om (fun j hj=>E3 Hgr.out om)
  rw[<-hu] at hu1 hu2;have Hs:=zh hs;have Hu:=zh hu;clear hs hu hA;by_cases hlt:k<l.length
  . have hck:=hcell k _ hlt (hE0.trans hE);obtain⟨hq1,hq2⟩:=E3 Hgr.out hlt;obtain⟨q,hq⟩:=Int.eq_ofNat_of_zero_le (show 0<=nth l k by omega);have Hst:=zh (cz5 hlt hq x');have Hu2:Hid (nth l k*A0 (l.take k)=A0 (l.take (k+1))):=zh (by rw[W2 l k hlt,Int.mul_comm]);rw[hq] at hq1 hq2;have Hq:=zh hq;have hd:(q - x' % q) % q<24:=nlt (Nat.mod_lt _ om) om;have hm1:((q - x' % q) % q)*u<=24*13824:=Nat.mul_le_mul om om;have hm2:u*q<=13824*24:=Nat.mul_le_mul om om;have h1:=Nat.mod_lt x' (show 0<q by omega);have c1:(q:Int) - (x':Int) % (q:Int)=((q - x' % q:Nat):Int):=(by rw[<-Int.natCast_emod];omega);have c2:(((q:Int) - (x':Int) % (q:Int)) % (q:Int))*(u:Int)=((((q - x' % q) % q)*u:Nat):Int):=(by rw[c1,Int.natCast_mul,Int.natCast_emod]);have c3:((u*q:Nat):Int)=(u:Int)*(q:Int):=Int.natCast_mul _ _;have b1:(x':Int) % (q:Int)<24:=(by have:=Int.emod_lt_of_pos (x':Int) (show (0:Int)<q by omega);omega);have b3:0<=(x':Int) % (q:Int):=Int.emod_nonneg _ om;have b2:0<=(q:Int) - (x':Int) % (q:Int):=(by have:=Int.emod_lt_of_pos (x':Int) (show (0:Int)<q by omega);omega);have b5:(((q:Int) - (x':Int) % (q:Int)) % (q:Int))*(u:Int)<=331776:=(by rw[c2];omega);have b6:0<=(((q:Int) - (x':Int) % (q:Int)) % (q:Int))*(u:Int):=(by rw[c2];omega);have b7:(u:Int)*(q:Int)<=331776:=(by rw[<-c3];omega);have b8:0<=(u:Int)*(q:Int):=(by rw[<-c3];omega);have Hm1:=zh hm1;clear c1 c2 c3 hd hm1 hm2 h1;go_wp2_with fail;skip;go_roundw;case rel =>
     refine⟨k+1,x' / q,s+((q - x' % q) % q)*u,u*q,om,nle (Nat.div_le_self _ _) hx',?_,?_,?_,?_,?_,zg,hE⟩
     . exact zz190
     . exact zz133
     . exact zz191
     . exact zz130
     . exact c90 u q
    case measure=>exact zm1
  . exact zz126
theorem W8(v:Value)(l:List Int)(x:Nat)(w:World)(h:c9 w v l)(Hgr:Hid (j1 l=true))(hx:x<16777216) :
 Calls Tryz.prog 202 #[.agg #[v],.int .i64 x] w fun e w'=>e=.returned (.int .i64 (p9 l x))∧Ext w w':=by
 obtain⟨ao,c,adr,rfl,hlen,hadr,hcell⟩:=h.op;have hix:=j3 (c:=c) elI szI hadr;clear hadr h;obtain⟨wb,hwb⟩:=nq (w.alloc (.cells #[.slice ao l.length c] 28));have hE0:=(er w).alloc (.cells #[.slice ao l.length c] 28);have hb:=j0 w (.slice ao l.length c) 28;rw[<-hwb] at hE0 hb;have hE:=er wb;have Hwb:=zh hwb;have hA:=bh1 Hgr.out x;have h3:=C6 Hgr.out;clear hwb;go_in;go_wp2_with fail;rw[<-Hwb.out];go_loopw [1,5,6,7] (fun xv sv uv i wr=>∃k x' s u:Nat,k<=l.length∧x'<=x∧s+u*p9 (l.drop k) x'=p9 l x∧(u:Int)=A0 (l.take k)∧xv=.int .i64 x'∧sv=.int .i64 s∧uv=.int .i64 u∧i=.int .i64 k∧Ext wb wr) (fun _ _ _ i _=>l.length - (intOf i).toNat);case atStart=>exact⟨0,x,0,1,om,om,zm,by simp[A0],rfl,rfl,rfl,rfl,hE⟩
 case round =>
  clear hE;obtain⟨k,x',s,u,hk,hx',hs,hu,rfl,rfl,rfl,rfl,hE⟩:=hrel;have hbx:=hb wr hE;have hsb:=c69 hs hA;obtain⟨hu1,hu2⟩:=b07 k l hk om (fun j hj=>E3 Hgr.out om)
  rw[<-hu] at hu1 hu2;have Hs:=zh hs;have Hu:=zh hu;clear hs hu hA;by_cases hlt:k<l.length
  . have hck:=hcell k _ hlt (hE0.trans hE);obtain⟨hq1,hq2⟩:=E3 Hgr.out hlt;obtain⟨q,hq⟩:=Int.eq_ofNat_of_zero_le (show 0<=nth l k by omega);have Hst:=zh (cz5 hlt hq x');have Hu2:Hid (nth l k*A0 (l.take k)=A0 (l.take (k+1))):=zh (by rw[W2 l k hlt,Int.mul_comm]);rw[hq] at hq1 hq2;have Hq:=zh hq;have hd:(q - x' % q) % q<24:=nlt (Nat.mod_lt _ om) om;have hm1:((q - x' % q) % q)*u<=24*13824:=Nat.mul_le_mul om om;have hm2:u*q<=13824*24:=Nat.mul_le_mul om om;have h1:=Nat.mod_lt x' (show 0<q by omega);have c1:(q:Int) - (x':Int) % (q:Int)=((q - x' % q:Nat):Int):=(by rw[<-Int.natCast_emod];omega);have c2:(((q:Int) - (x':Int) % (q:Int)) % (q:Int))*(u:Int)=((((q - x' % q) % q)*u:Nat):Int):=(by rw[c1,Int.natCast_mul,Int.natCast_emod]);have c3:((u*q:Nat):Int)=(u:Int)*(q:Int):=Int.natCast_mul _ _;have b1:(x':Int) % (q:Int)<24:=(by have:=Int.emod_lt_of_pos (x':Int) (show (0:Int)<q by omega);omega);have b3:0<=(x':Int) % (q:Int):=Int.emod_nonneg _ om;have b2:0<=(q:Int) - (x':Int) % (q:Int):=(by have:=Int.emod_lt_of_pos (x':Int) (show (0:Int)<q by omega);omega);have b5:(((q:Int) - (x':Int) % (q:Int)) % (q:Int))*(u:Int)<=331776:=(by rw[c2];omega);have b6:0<=(((q:Int) - (x':Int) % (q:Int)) % (q:Int))*(u:Int):=(by rw[c2];omega);have b7:(u:Int)*(q:Int)<=331776:=(by rw[<-c3];omega);have b8:0<=(u:Int)*(q:Int):=(by rw[<-c3];omega);have Hm1:=zh hm1;clear c1 c2 c3 hd hm1 hm2 h1;go_wp2_with fail;skip;go_roundw;case rel =>
     refine⟨k+1,x' / q,s+((q - x' % q) % q)*u,u*q,om,nle (Nat.div_le_self _ _) hx',?_,?_,?_,?_,?_,zg,hE⟩
     . exact zz190
     . exact zz133
     . exact zz191
     . exact zz130
     . exact c90 u q
    case measure=>exact zm1
  . exact zz126
theorem bj2(v:Value)(l:List Int)(a:Nat)(w:World)(h:c9 w v l)(Hgr:Hid (j1 l=true))(ha:a<2 ^ 24) :
 Calls Tryz.prog 294 #[.agg #[v],.int .i64 a] w fun e w'=>e=.returned (.int .i64 (bj1 l a))∧Ext w w':=by
 obtain⟨wb,Hwb,hE0,hb,hg,hE,Hsz⟩:=ju3 28 h;clear h;go_in;go_wp2_with fail;rw[<-Hwb.out];go_wp2_with (first | (go_at_call 214;refine (I5 _ (ha) _).mono ?_;rintro e w1 ⟨v1,rfl,hL,hE1⟩;obtain⟨aoL,cL,adrL,rfl,hadrL,hcellL⟩:=hL.ints.nats;have hixL:=j3 (c:=cL) elI szI hadrL;clear hadrL));have hb1:∀W,Ext w1 W->W.cell? ⟨w.heap.size,0,none⟩=some v:=fun W hW=>hb W (hE1.trans hW);have hg1:∀W,Ext w1 W->c9 W v l:=fun W hW=>hg W (hE1.trans hW);replace hE:=er w1;clear hb hg hL;have hall:∀y∈j7 a,y<24:=fun y hy=>I9 hy;have hlen:=B7 a;have Hd:=zh (jd2 l a);generalize j7 a=L at hcellL hixL hall hlen Hd ⊢;go_loopw [5,11] (fun ov i wr=>∃k:Nat,k<=L.length∧i=.int .i64 k∧ov=.int .i64 ((ch3 l (L.take k):Nat):Int)∧Ext w1 wr) (fun _ i _=>L.length - (intOf i).toNat);case atStart=>exact⟨0,om,rfl,by simp[ch3,U6],hE⟩
 case round =>
  clear hE;obtain⟨k,hk,rfl,rfl,hE⟩:=hrel;by_cases hlt:k<L.length
  . have hck:=hcellL k _ hlt hE;have hbx:=hb1 _ hE;have hby:=hall _ (o6 hlt);have Ht:=zh (j35 l (L.take k) (d8 L k));have Ht2:=zh (I8 L k hlt);have hz:=bh1 Hgr.out (d8 L k);have hs1:=p6 (n:=p9 l (d8 L k)) om;have hs2:=F6 (jm6 Hgr.out (L.take k)) hz;go_wp2_with (first | (go_at_call 307;refine cx (ba1 _ _ _ _ (hg1 _ hE) (Hgr) (om)) hE ?_;clear hE;intro w' hE));exact zz32
  . exact zz48
theorem be8(v:Value)(l:List Int)(a:Nat)(w:World)(h:c9 w v l)(Hgr:Hid (j1 l=true))(ha:a<2 ^ 24) :
 Calls Tryz.prog 207 #[.agg #[v],.int .i64 a] w fun e w'=>e=.returned (.int .i64 (genF l a))∧Ext w w':=by
 obtain⟨wb,Hwb,hE0,hb,hg,hE,Hsz⟩:=ju3 28 h;clear h;have hgb:=br4 Hgr.out a;have ho:=jm4 Hgr.out a;have Hone:=zh (cf4 l a);go_in;go_wp2_with fail;rw[<-Hwb.out];go_loopw [5] (fun hv wr=>∃h:Nat,Sub 1 h∧Sub h (genF l a)∧hv=.int .i64 h∧Ext wb wr) (fun hv _=>16777216 - (intOf hv).toNat);case atStart=>exact⟨1,Sub.refl 1,Hone.out,rfl,hE⟩
 case round =>
  clear hE;obtain⟨h,h1,h2,rfl,hE⟩:=hrel;have hbx:=fun U=>hb _ (d5 wb U);have hh:=cp3 hgb h2;have hs1:=G9 Hgr.out h a;have hs2:=G9 Hgr.out h (bj1 l a);have i1:=M4 (a:=h) (b:=l7 l h a) om om;have ho1:h ||| l7 l h a<2 ^ 24:=Nat.or_lt_two_pow hh hs1
  have i2:=M4 (a:=h ||| l7 l h a) (b:=l7 l h (bj1 l a)) om om;have hN2:=j15 Hgr.out h2;have hN1:=ja8 l a h;have hend:=j14 h1 h2;have hNb:=cp3 hgb hN2;rw[show h ||| l7 l h a ||| l7 l h (bj1 l a)=cl7 l a h from rfl] at i2;generalize cl7 l a h=N at i2 hN2 hN1 hend hNb;have H1:=zh h1;have H2:=zh h2;have HN1:=zh hN1;have HN2:=zh hN2;have He:=zh hend;clear h1 h2 hN1 hN2 hend;by_cases hq:N=h
  . have hq':((N:Int) == (h:Int))=true:=(by simp[hq]);have Hq:=zh hq;clear hq;go_wp2_with fail;(refine wl hE ?_);(repeat (go_big_quiet_step (first | (go_at_call 119;exact Calls.lat (J4 _ _ _ _ _ (hg _ (d5 wb _)) (Hgr) (hh) (ha))) | (go_at_call 119;exact Calls.lat (J4 _ _ _ _ _ (hg _ (d5 wb _)) (Hgr) (hh) (ho))) | (go_at_call 294;exact Calls.lat (bj2 _ _ _ _ (hg _ (d5 wb _)) (Hgr) (ha))))));(refine zd ?_);(clear hE);(intro W hE);go_wp2_with fail;go_ret;exact⟨o7 (by rw[<-He.out Hq.out]),hE0.trans hE⟩
  . have hq':((N:Int) == (h:Int))=false:=(by simp;omega);have Hlt:=zh (bt1 hNb HN1.out (fun e=>hq e.symm)).1;clear hq;go_wp2_with fail;(refine wl hE ?_);(repeat (go_big_quiet_step (first | (go_at_call 119;exact Calls.lat (J4 _ _ _ _ _ (hg _ (d5 wb _)) (Hgr) (hh) (ha))) | (go_at_call 119;exact Calls.lat (J4 _ _ _ _ _ (hg _ (d5 wb _)) (Hgr) (hh) (ho))) | (go_at_call 294;exact Calls.lat (bj2 _ _ _ _ (hg _ (d5 wb _)) (Hgr) (ha))))));(refine zd ?_);(clear hE);(intro W hE);go_wp2_with fail;go_roundw;(case rel=>exact⟨N,H1.out.trans HN1.out,HN2.out,rfl,hE⟩);case measure=>(simp[intOf];have:=Hlt.out;omega)
theorem be9(v:Value)(l:List Int)(a:Nat)(w:World)(h:c9 w v l)(Hgr:Hid (j1 l=true))(ha:a<2 ^ 24) :
 Calls Tryz.prog 176 #[.agg #[v],.int .i64 a] w fun e w'=>e=.returned (.int .i64 (genF l a))∧Ext w w':=by
 obtain⟨wb,Hwb,hE0,hb,hg,hE,Hsz⟩:=ju3 28 h;clear h;have hbx:=hb wb hE;have hgb:=br4 Hgr.out a;have Hone:=zh (cf4 l a);have h1b:(1:Nat)<2 ^ 24:=om;have hs1:=G9 Hgr.out 1 a;have i1:=M4 (a:=1) (b:=l7 l 1 a) om om;go_in;go_wp2_with fail;rw[<-Hwb.out];go_wp2_with (first | (go_at_call 49;refine cx (D6 _ _ _ _ _ (hg _ hE) (Hgr) (h1b) (ha)) hE ?_;clear hE;intro w' hE));clear hbx hs1;go_loopw [5,6] (fun hv nv wr=>∃h:Nat,Sub 1 h∧Sub h (genF l a)∧hv=.int .i64 h∧nv=.int .i64 (bp0 l a h:Nat)∧Ext wb wr) (fun hv _ _=>16777216 - (intOf hv).toNat);case atStart=>exact⟨1,Sub.refl 1,Hone.out,rfl,by unfold bp0;rw[<-i1];rfl,hE⟩
 case round =>
  clear hE i1;obtain⟨h,h1,h2,rfl,rfl,hE⟩:=hrel;have hbx:=hb _ hE;have hh:=cp3 hgb h2;have hN2:=jb0 Hgr.out h2;have hN1:Sub h (bp0 l a h):=Sub.or_left _ _;have hend:=ja9 h1 h2;have hNb:=cp3 hgb hN2;generalize bp0 l a h=N at hN2 hN1 hend hNb ⊢;have hs1:=G9 Hgr.out N a;have i1:=M4 (a:=N) (b:=l7 l N a) om om;have Hi:Hid (N ||| l7 l N a=bp0 l a N):=zh rfl;have H1:=zh h1;have H2:=zh h2;have HN1:=zh hN1;have HN2:=zh hN2;have He:=zh hend;clear h1 h2 hN1 hN2 hend;by_cases hq:N=h
  . have hq':((N:Int) != (h:Int))=false:=(by simp[hq]);have Hq:=zh hq;clear hq;go_wp2_with fail;go_ret;exact⟨o7 (by rw[<-He.out Hq.out]),hE0.trans hE⟩
  . have hq':((N:Int) != (h:Int))=true:=(by simp;omega);have Hlt:=zh (bt1 hNb HN1.out (fun e=>hq e.symm)).1;clear hq;go_wp2_with (first | (go_at_call 49;refine cx (D6 _ _ _ _ _ (hg _ hE) (Hgr) (hNb) (ha)) hE ?_;clear hE;intro w' hE));go_roundw;(case rel=>exact⟨N,H1.out.trans HN1.out,HN2.out,rfl,by rw[Hi.out],hE⟩);case measure=>(simp[intOf];have:=Hlt.out;omega)
theorem bq0(v:Value)(l:List Int)(a:Int)(w:World)(h:c9 w v l) :
 Calls Tryz.prog 302 #[.agg #[v],.int .i64 a] w fun e w'=>e=.returned (.int .i64 (bw1 l a))∧Ext w w':=by
 obtain⟨wb,Hwb,hE0,hb,hg,hE,Hsz⟩:=ju3 28 h;clear h;have hbx:=hb wb hE;cases hs:j4 l a
 . have Hs:=zh (db1 (J9 hs));go_in;go_wp2_with fail;rw[<-Hwb.out];go_wp2_with (first | (go_at_call 105;refine cx (I6 _ _ _ _ (hg _ hE)) hE ?_;clear hE;intro w' hE));go_ret;exact zz56
 . obtain⟨n,rfl,h1,h2,hgr⟩:=o4 hs;by_cases h0:n=0
   . subst h0;have Hs:=zh (db1 (G2 l));go_in;go_wp2_with fail;rw[<-Hwb.out];go_wp2_with (first | (go_at_call 105;refine cx (I6 _ _ _ _ (hg _ hE)) hE ?_;clear hE;intro w' hE));go_ret;exact⟨o7 (by have:=Hs.out;simp_all),hE0.trans hE⟩
   . have Hs:=zh (cx7 (M5 hs om));obtain⟨l1,l2,l3,l4⟩:=bw6 h0 h2;have h0':((n:Int) == 0)=false:=(by simp;omega);have Hgr:=zh hgr;have hn:=bh1 hgr (N5 n);have hs1:=G0 hgr n (p9 l (N5 n));have hs2:=br4 hgr (j6 l n (p9 l (N5 n)));clear hgr h0;go_in;go_wp2_with fail;rw[<-Hwb.out];go_wp2_with (first | (go_at_call 105;refine cx (I6 _ _ _ _ (hg _ hE)) hE ?_;clear hE;intro w' hE) | (go_at_call 214;refine (I5 n h2 _).mono ?_;rintro e w1 ⟨v1,rfl,hL,hE1⟩;replace hE:=hE.trans hE1;obtain⟨aoL,cL,adrL,rfl,hadrL,hcellL⟩:=hL.ints.nats;have hixL:=j3 (c:=cL) elI szI hadrL;clear hadrL;have hck:=hcellL 0 _ l2 (er _);rw[l1] at hck;have hix0:∀W,(Instr.indexAt 26 (.slice aoL (j7 n).length cL) (.int .i64 0)).run Tryz.prog W=.ok (.pointer (some (adrL 0))) W:=fun W=>hixL 0 W l2));replace hbx:=fun U=>hb _ (d5 wb U);(refine wl hE ?_);(repeat (go_big_quiet_step (first | (go_at_call 307;exact Calls.lat (ba1 _ _ _ _ (hg _ (d5 wb _)) (Hgr) (om))) | (go_at_call 220;exact Calls.lat (H9 _ _ _ _ _ (hg _ (d5 wb _)) (Hgr) (h2) (hn))) | (go_at_call 220;exact Calls.lat (H9 _ _ _ _ _ (hg _ (d5 wb _)) (Hgr) (hs2) (l4))) | (go_at_call 207;exact Calls.lat (be8 _ _ _ _ (hg _ (d5 wb _)) (Hgr) (hs1))))));(refine zd ?_);(clear hE);(intro W hE);go_wp2_with fail;go_ret;exact⟨o7 (by rw[Hs.out];rfl),hE0.trans hE⟩
theorem cy2(a:Nat)(h0:a≠0)(ha:a<2 ^ 24)(w:World) :
 Calls Tryz.prog 283 #[.int .i64 a] w fun e w'=>e=.returned (.int .i64 (N5 a:Int))∧w=w':=by
 obtain⟨-,-,l3,l4⟩:=bw6 h0 ha;have L3:=zh l3;clear l3;go_in;go_wp2_with fail;go_loop [3] (fun i=>∃k:Nat,k<=N5 a∧(∀j,j<k->a.testBit j=false)∧i=.int .i64 k) (fun i=>24 - (intOf i).toNat);case atStart=>exact⟨0,om,om,rfl⟩
 case round =>
  obtain⟨k,hk,hall,rfl⟩:=hrel;have Hall:=zh hall;clear hall;have hsh:=K0 (a:=a) (n:=k) om;have hle:=bt0 a k;cases hb:a.testBit k
  . have hm:shr a k % 2=0:=by
     rw[Nat.testBit_eq_decide_div_mod_eq,<-Nat.shiftRight_eq_div_pow] at hb;have:=of_decide_eq_false hb;unfold shr;omega
    have hand:W1 ((shr a k:Nat):Int) 1=0:=by rw[Q6 om,hm];rfl
    have hne:k≠N5 a:=by intro e;have:=L3.out;rw[<-e,hb] at this;cases this
    have Hb:=zh hb
    clear hb hm
    go_wp2_with fail
    go_round
    case rel=>exact⟨k+1,om,fun j hj=>by by_cases e:j=k;(subst e;exact Hb.out);exact Hall.out j om,zg⟩
    case measure=>exact zm1
  . have hm:shr a k % 2=1:=by
     rw[Nat.testBit_eq_decide_div_mod_eq,<-Nat.shiftRight_eq_div_pow] at hb;exact of_decide_eq_true hb
    have hand:W1 ((shr a k:Nat):Int) 1=1:=by rw[Q6 om,hm];rfl
    have He:=zh (jm0 om Hall.out hb)
    clear hb hm
    go_wp2_with fail
    go_ret
    exact⟨o7 (by rw[He.out]),rfl⟩
theorem zz142{P:Prop}(h:P:=by go_wp2_with fail;go_ret;exact⟨rfl,rfl⟩):P:=h
theorem db3(a x:Nat)(ha:a<2 ^ 24)(hx:x<=64)(w:World) :
 Calls Tryz.prog 225 #[.int .i64 a,.int .i64 x] w fun e w'=>e=.returned (.bool (a.testBit x))∧w=w':=by
 have hsh:=K0 (a:=a) (n:=x) hx;have hbt:=X8 (a:=a) (n:=x) om hx;go_in;exact zz142
theorem T1(a x:Nat)(ha:a<2 ^ 24)(hx:x<=64)(w:World){b:Bool}(hb:a.testBit x=b) :
 Calls Tryz.prog 225 #[.int .i64 a,.int .i64 x] w fun e w'=>e=.returned (.bool b)∧w=w':=by
 subst hb;exact db3 a x ha hx w
theorem zz85{P:Prop}(h:P:=by exact⟨rfl,hE0.trans hE⟩):P:=h
theorem cs7(v:Value)(l:List Int)(x:Int)(w:World)(h:c9 w v l) :
 Calls Tryz.prog 231 #[.agg #[v],.int .i64 x] w fun e w'=>e=.returned (.bool (N3 l x))∧Ext w w':=by
 obtain⟨wb,Hwb,hE0,hb,hg,hE,Hsz⟩:=ju3 28 h;clear h;have ho:=bc3 l;go_in;go_wp2_with fail;rw[<-Hwb.out];go_wp2_with (first | (go_at_call 99;refine cx (T8 _ _ _ (hg _ hE)) hE ?_;clear hE;intro w' hE) | (go_at_call 206;refine (P1 _ _ _ _).mono ?_;rintro e w' ⟨rfl,rfl⟩));go_ret;exact zz85
theorem cs8(v:Value)(l:List Int)(x:Int)(w:World)(h:c9 w v l){b:Bool}(hb:N3 l x=b) :
 Calls Tryz.prog 231 #[.agg #[v],.int .i64 x] w fun e w'=>e=.returned (.bool b)∧Ext w w':=by
 subst hb;exact cs7 v l x w h
theorem K5(v:Value)(l:List Int)(w:World)(h:c9 w v l) :
 Calls Tryz.prog 179 #[.agg #[v]] w fun e w'=>e=.returned (.int .i64 (b40 l))∧Ext w w':=by
 obtain⟨wb,Hwb,hE0,hb,hg,hE,Hsz⟩:=ju3 28 h;clear h;cases hgr:j1 l
 . have Ho:=zh (cn3 hgr);go_in;go_wp2_with fail;rw[<-Hwb.out];go_wp2_with (first | (go_at_call 42;refine cx (A3 _ _ _ (hg _ hE)) hE ?_;clear hE;intro w' hE));go_ret;exact⟨o7 Ho.out.symm,hE0.trans hE⟩
 . have Ho:=zh (ba2 hgr);have Hgr:=zh hgr;go_in;go_wp2_with fail;rw[<-Hwb.out];go_wp2_with (first | (go_at_call 42;refine cx (A3 _ _ _ (hg _ hE)) hE ?_;clear hE;intro w' hE) | (go_at_call 43;refine cx (o5 _ _ _ (hg _ hE) (Hgr)) hE ?_;clear hE;intro w' hE));go_ret;exact⟨o7 Ho.out.symm,hE0.trans hE⟩
theorem zz55{P:Prop}(h:P:=by go_in;go_wp2_with fail;rw[<-Hwb.out];go_wp2_with (first | (go_at_call 179;refine cx (K5 _ _ _ (hg _ hE)) hE ?_;clear hE;intro w' hE));go_ret;exact⟨j5 (by rw[Hh.out]),hE0.trans hE⟩):P:=h
theorem cf9(v:Value)(l:List Int)(x:Int)(w:World)(h:c9 w v l) :
 Calls Tryz.prog 243 #[.agg #[v],.int .i64 x] w fun e w'=>e=.returned (.bool (N3 l x))∧Ext w w':=by
 obtain⟨wb,Hwb,hE0,hb,hg,hE,Hsz⟩:=ju3 28 h;clear h;have ho:=bc3 l;by_cases h0:0<=x
 . by_cases h1:x<b40 l
   . have Hh:Hid (N3 l x=true):=zh (Z9.2 om);exact zz55
   . have Hh:Hid (N3 l x=false):=zh (d40.2 om);have h1':decide (x<b40 l)=false:=(by simp;omega);exact zz55
 . have Hh:Hid (N3 l x=false):=zh (d40.2 om);have h0':decide (0<=x)=false:=(by simp;omega);exact zz55
theorem N4(v:Value)(l:List Int)(x:Int)(w:World)(h:c9 w v l){b:Bool}(hb:N3 l x=b) :
 Calls Tryz.prog 243 #[.agg #[v],.int .i64 x] w fun e w'=>e=.returned (.bool b)∧Ext w w':=by
 subst hb;exact cf9 v l x w h
def V4(w:World)(v:Value)(l:List Int):Prop :=
 ∃(ao:Option Addr) (c:Nat),v=.slice ao l.length c∧l.length<=140737488355328∧(∀i,0<=nth l i∧nth l i<=255) ∧
  ∀i,i<l.length->∃a,ao=some a∧w.cell? (a.add i)=some (.int .u8 (nth l i))
theorem V4.ext{w w':World}{v:Value}{l:List Int}(h:V4 w v l)(hE:Ext w w'):V4 w' v l:=by
 exact zz153
theorem V4.op{w:World}{v:Value}{l:List Int}(h:V4 w v l) :
 ∃(ao:Option Addr) (c:Nat) (adr:Nat->Addr),v=.slice ao l.length c∧l.length<=140737488355328∧(∀i,0<=nth l i∧nth l i<=255) ∧
  (∀i,i<l.length->ao=some (adr 0)∧adr i=(adr 0).add i) ∧
  (∀i W,i<l.length->Ext w W->W.cell? (adr i)=some (.int .u8 (nth l i))):=by
 obtain⟨ao,c,rfl,h1,h2,h3⟩:=h
 refine⟨ao,c,fun i=>(ao.getD default).add i,rfl,om,h2,fun i hi=>?_,fun i W hi hW=>?_⟩
 . obtain⟨a,rfl,hc⟩:=h3 i hi
   exact⟨by simp[Addr.add],by simp[Addr.add]⟩
 . obtain⟨a,rfl,hc⟩:=h3 i hi
   exact hW.cell (by simpa using hc)
theorem elY:Tryz.prog.underlying 22=some (.slice (Tryz.prog.elem 22)):=by kernel_rfl
theorem szY:∀w,(Go.sizeOf (Tryz.prog.elem 22)).run Tryz.prog w=.ok 1 w:=fun w=>by kernel_rfl
def Cur(w0 w:World)(p:Nat):Prop :=
 ∃(ao:Option Addr) (l:List Int) (c:Nat) (i:Nat) (h:Int),Blk w p 117 #[.slice ao l.length c,.int .i64 i,.int .i64 h]∧i<=l.length∧w0.heap.size<=p∧V4 w0 (.slice ao l.length c) l∧Ext w0 w
theorem Cur.lt{w0 w:World}{p:Nat}(h:Cur w0 w p):w0.heap.size<=p∧p<w.heap.size:=by
 obtain⟨_,_,_,_,_,h1,_,h2,_⟩:=h;exact⟨h2,h1.lt⟩
theorem Cur.ext{w0 w w':World}{p:Nat}(h:Cur w0 w p)(hE:Ext w w'):Cur w0 w' p:=by
 obtain⟨ao,l,c,i,n,h1,h2,h3,h4,h5⟩:=h;exact⟨ao,l,c,i,n,h1.ext hE,h2,h3,h4,h5.trans hE⟩
theorem Cur.base{w0 w:World}{p:Nat}(h:Cur w0 w p):Ext w0 w:=by obtain⟨_,_,_,_,_,_,_,_,_,h⟩:=h;exact h
theorem Cur.other{w0 w:World}{p:Nat}(h:Cur w0 w p){b i:Nat}(h1:p≠b)(h2:w0.heap.size<=b)(v:Value):Cur w0 (w.setCell ⟨b,i,none⟩ v) p:=by
 obtain⟨ao,l,c,k,n,g1,g2,g3,g4,g5⟩:=h;exact⟨ao,l,c,k,n,g1.other h1 v,g2,g3,g4,g5.setCell h2 v⟩
def Drw(p:Nat)(w w':World):Prop:=Fr p none w w'
theorem Drw.blk{p:Nat}{w w':World}(h:Drw p w w'){c:Nat}{T:TypeId}{cs:Array Value}(hB:Blk w c T cs)(hc:c≠p):Blk w' c T cs:=Fr.blk h hB hc zm
theorem Drw.own{p:Nat}{w w':World}(h:Drw p w w'){TI:TypeId}{w0:World}{v:Value}{l:List Int}(hO:Own TI w0 w v l)(hp:p<w0.heap.size):Own TI w0 w' v l:=by
 refine Fr.own h hO (j38 hO hp) ?_;cases hv:v.ownBlock<;>simp
theorem Drw.trans{p:Nat}{w w1 w2:World}(h:Drw p w w1)(k:Drw p w1 w2):Drw p w w2:=Fr.trans h (Nw.refl _ _) k
theorem Drw.alloc{p:Nat}{w w':World}(h:Drw p w w')(o:Obj):Drw p w (w'.alloc o):=Fr.trans h (Nw.refl _ _) (((er w').alloc o).fr p none)
theorem Cur.alloc{w0 w:World}{p:Nat}(h:Cur w0 w p)(o:Obj):Cur w0 (w.alloc o) p:=h.ext ((er w).alloc o)
theorem Drw.set{p:Nat}{w w':World}(h:Drw p w w'){b:Nat}(hb:w.heap.size<=b)(i:Nat)(v:Value):Drw p w (w'.setCell ⟨b,i,none⟩ v) :=
 ⟨h.os,h.tape,h.output,by simpa using h.size,fun k hk h1 h2=>by rw[Below.heap_setCell _ _ _ _ (by show k≠b;omega)];exact Fr.block h k hk h1 h2⟩
theorem Own.low{TI:TypeId}{w0 w1 w:World}{v:Value}{l:List Int}(h:Own TI w1 w v l)(hs:w0.heap.size<=w1.heap.size):Own TI w0 w v l:=⟨R0 h.1 hs,h.2⟩
theorem Drw.refl(p:Nat)(w:World):Drw p w w:=Fr.refl _ _ _
theorem Drw.size{p:Nat}{w w':World}(h:Drw p w w'):w.heap.size<=w'.heap.size:=Fr.size h
theorem Ext.drw{w w':World}(h:Ext w w')(p:Nat):Drw p w w':=h.fr p none
def jb4(x y:Int):Int:=bits .xor .i64 x y
@[go_sem high] theorem intBits_xor_i (x y:Int):Op.intBits .xor .i64 x y=pure (.int .i64 (jb4 x y)):=rfl
theorem db2(x:Int):0<=W1 x 255∧W1 x 255<=255:=by
 have h:W1 x 255=((((BitVec.ofInt IntKind.i64.bits x).toNat &&& 255:Nat)):Int):=by
  show IntKind.i64.wrap ((BitVec.ofInt IntKind.i64.bits x &&& BitVec.ofInt IntKind.i64.bits 255).toNat:Int)=_;rw[BitVec.toNat_and];have e:(BitVec.ofInt IntKind.i64.bits (255:Int)).toNat=255:=by decide
  rw[e,bd2];exact Nat.lt_of_le_of_lt Nat.and_le_right (by decide)
 have h2:(BitVec.ofInt IntKind.i64.bits x).toNat &&& 255<=255:=Nat.and_le_right;omega
theorem zz123{P:Prop}(h:P:=by go_wp2_with fail;go_ret;exact⟨_,rfl,⟨ao,l,c,0,_,Blk.new _ _ _,Nat.zero_le _,nle HE0.out.size hE.size,HB.out,HE0.out.trans (hE.alloc _)⟩,hE.alloc _,hE.size⟩):P:=h
theorem V0(v:Value)(l:List Int)(w0 w:World)(h0:V4 w0 v l)(hE0:Ext w0 w) :
 Calls Tryz.prog 86 #[v] w fun e w'=>∃p,e=.returned (.pointer (some ⟨p,0,none⟩))∧Cur w0 w' p∧Ext w w'∧w.heap.size<=p:=by
 have h:=h0.ext hE0;have HB:=zh h0;have HE0:=zh hE0;clear h0 hE0;obtain⟨ao,c,adr,rfl,hl,hb,hadr,hcell⟩:=h.op;have hix:=j3 (c:=c) elY szY hadr;have Hcell:=zh hcell;clear hadr hcell h;go_in;go_wp2_with fail;go_loopw [3,4] (fun sh si wr=>∃(k:Nat) (h:Int),k<=l.length∧si=.int .i64 k∧sh=.int .i64 h∧Ext w wr) (fun _ si _=>l.length - (intOf si).toNat);case atStart=>exact⟨0,_,om,rfl,rfl,er _⟩
 case round =>
  rename World=>wr;obtain⟨k,h,hk,rfl,rfl,hE⟩:=hrel;by_cases hlt:k<l.length
  . have hck:=Hcell.out k wr hlt hE;have hbk:=hb k;obtain⟨x,hx⟩:=nq (nth l k);rw[<-hx] at hck hbk;clear hx;have hltI:(k:Int)<(l.length:Int):=om;by_cases h4:(k:Int)<4000
    . go_wp2_with fail;go_roundw;(case rel=>exact⟨k+1,_,om,zg,rfl,hE⟩);case measure=>exact zm1
    . exact zz123
  . have hltI:¬(k:Int)<(l.length:Int):=(by omega);exact zz123
theorem b99(w0 w:World)(p:Nat)(h:Cur w0 w p) :
 Calls Tryz.prog 263 #[.pointer (some ⟨p,0,none⟩)] w fun e w'=>∃x,e=.returned (.int .i64 x)∧0<=x∧x<=255∧Cur w0 w' p∧Drw p w w':=by
 obtain⟨ao,l,c,i,hv,hB,hi,hp,hY,hE0⟩:=h;have HY:=zh hY;obtain⟨ao',c',adr,hvY,hl,hb,hadr,hcell⟩:=hY.op;simp only[Value.slice.injEq] at hvY;obtain⟨rfl,-,rfl⟩:=hvY;have hix:=j3 (c:=c) elY szY hadr;have Hcell:=zh hcell;clear hadr hcell hY;have k2:=hB.cell (i:=2) (v:=.int .i64 hv) rfl;have f2:=hB.free 2;have HB:=zh hB;have HE0:=zh hE0;clear hB hE0;have hb2:∀(W:World) (u:Value) (h':Int),Blk W p 117 #[u,.int .i64 i,.int .i64 h']->∀U,(Lat W U).cell? ⟨p,0,none⟩=some u∧(Lat W U).cell? ⟨p,1,none⟩=some (.int .i64 i)∧(Lat W U).cell? ⟨p,2,none⟩=some (.int .i64 h'):=fun W u h' hB U =>
  ⟨(hB.ext (d5 W U)).cell rfl,(hB.ext (d5 W U)).cell rfl,(hB.ext (d5 W U)).cell rfl⟩
 have Hb2:=zh hb2;clear hb2;go_in;go_wp2_with fail;generalize wrap64 (wrap64 (hv*6364136223846793005)+1442695040888963407)=h1;have B1:Blk (w.setCell ⟨p,2,none⟩ (.int .i64 h1)) p 117 #[.slice ao l.length c,.int .i64 i,.int .i64 h1]:=HB.out.set 2 _;have E1:Ext w0 (w.setCell ⟨p,2,none⟩ (.int .i64 h1)):=HE0.out.setCell hp _;have F1:Drw p w (w.setCell ⟨p,2,none⟩ (.int .i64 h1)):=b96 _ _ _ _ _;generalize w.setCell ⟨p,2,none⟩ (.int .i64 h1)=w1 at B1 E1 F1 ⊢;have HB1:=zh B1;have HE1:=zh E1;have HF1:=zh F1;have hU:=Hb2.out w1 _ _ B1;have c0U:=fun U=>(hU U).1;have c1U:=fun U=>(hU U).2.1;have c2U:=fun U=>(hU U).2.2;clear hU B1 E1 F1 k2 f2;have hE:=er w1;by_cases hil:i<l.length
 . have hilI:(i:Int)<(l.length:Int):=(by omega);have hbi:=hb i;have hciU:=fun U=>Hcell.out i (Lat w1 U) hil (HE1.out.trans (d5 w1 U));obtain⟨y,hy⟩:=nq (nth l i);rw[<-hy] at hbi hciU;clear hy;have hixi:=hix i;(refine wl hE ?_);(repeat (go_big_quiet_step (first | (fail "no call"))));(refine zd ?_);(clear hE);(intro W hE);go_wp2_with fail;(refine wl hE ?_);(repeat (go_big_quiet_step (first | (fail "no call"))));(refine zd ?_);(clear hE);(intro W hE);go_wp2_with fail;(refine wl hE ?_);(repeat (go_big_quiet_step (first | (fail "no call"))));(refine zd ?_);(clear hE);(intro W hE);rename World=>w2;have B2:=HB1.out.ext hE;have k1:=B2.cell (i:=1) (v:=.int .i64 i) rfl;have f1:=B2.free 1;have hwi:IntKind.i64.wrap ((i:Int)+1)=((i+1:Nat):Int):=(by rw[show (i:Int)+1=((i+1:Nat):Int) by omega];exact bd2 (Nat.lt_of_le_of_lt (show i+1<=140737488355329 by omega) (by decide)));go_wp2_with fail;go_ret;have hx:=db2 (wrap64 (W1 (jb4 (bp2 h1 33) (bp2 h1 45)) 255+y));refine⟨_,rfl,hx.1,hx.2,⟨ao,l,c,i+1,h1,?_,om,hp,HY.out,(HE1.out.trans hE).setCell hp _⟩,HF1.out.trans ((hE.drw p).trans (b96 _ _ _ _ _))⟩;exact B2.set 1 _
 . have hilI:¬(i:Int)<(l.length:Int):=(by omega);(refine wl hE ?_);(repeat (go_big_quiet_step (first | (fail "no call"))));(refine zd ?_);(clear hE);(intro W hE);go_wp2_with fail;(refine wl hE ?_);(repeat (go_big_quiet_step (first | (fail "no call"))));(refine zd ?_);(clear hE);(intro W hE);rename World=>w2;go_wp2_with fail;go_ret;have hx:=db2 (jb4 (bp2 h1 33) (bp2 h1 45));exact⟨_,rfl,hx.1,hx.2,⟨ao,l,c,i,h1,HB1.out.ext hE,hi,hp,HY.out,HE1.out.trans hE⟩,HF1.out.trans (hE.drw p)⟩
end Go.Zz
