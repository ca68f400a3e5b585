/- Plain laws: what the table of sums holds, and how it changes. -/
import Derived.Test.YtnnbhcalddkmmaaGreatGr6
import Derived.Test.YtnnbhcalddkmmaaGreatGr5
import Derived.Deep.RegionHeld3
import Derived.Deep.RegionWith
import Derived.Deep.DeepCutAuto
namespace Go.Zz
open Go.RowKit Go.Proofs
set_option maxHeartbeats 400000
def b00(t:List Int)(S:List Nat):List Int:=S.foldl bump t
theorem cf5:∀(S:List Nat) (t:List Int),(b00 t S).length=t.length
 | [],_=>rfl
 | z :: S,t=>by show (b00 (bump t z) S).length=_;rw[cf5 S,bl1]
theorem ci5:∀(S:List Nat) (t:List Int) (z:Nat),(∀x∈S,x<t.length)→nth (b00 t S) z=nth t z+(S.count z:Int)
 | [],t,z,_=>by simp[b00]
 | x :: S,t,z,h=>by
  show nth (b00 (bump t x) S) z=_
  rw[ci5 S _ z (fun y hy=>by rw[bl1];exact h y (by simp[hy])),cv0 t x z (h x (by simp)),List.count_cons]
  by_cases e:z=x
  · subst e;simp;omega
  · have e':¬x=z:=fun h=>e h.symm
    simp[e,e']
def bf3(l:List Int)(L M:List Nat):List Nat:=L.flatMap (fun x=>M.map (fun y=>j9 l x y))
theorem cp0(t:List Int)(A B:List Nat):b00 t (A++B)=b00 (b00 t A) B:=by unfold b00;rw[List.foldl_append]
theorem d31(l:List Int)(x:Nat)(t:List Int)(L:List Nat):L0 l x t L=b00 t (L.map (fun y=>j9 l x y)):=by
 unfold L0 b00;rw[List.foldl_map]
theorem bc5(l:List Int)(b:Nat):∀(L:List Nat) (t:List Int),G3 l b t L=b00 t (bf3 l L (j1 b))
 | [],_=>rfl
 | x :: L,t=>by
  show G3 l b (L0 l x t (j1 b)) L=_
  rw[bc5 l b L,d31]
  unfold bf3;rw[List.flatMap_cons,cp0]
def b13(l:List Int)(a b:Nat):List Int:=G3 l b (List.replicate (ord l) 0) (j1 a)
theorem cy9(l:List Int)(a b:Nat):(b13 l a b).length=ord l:=by unfold b13;rw[bc5,cf5];simp
theorem dq3{l:List Int}(h:c9 l=true){L M:List Nat}:∀x∈bf3 l L M,x<ord l:=by
 intro x hx;obtain⟨u,_,hv⟩:=List.mem_flatMap.1 hx;obtain⟨y,_,rfl⟩:=List.mem_map.1 hv;exact E9 l (m0 h) _ _
theorem dg6(n i:Nat):nth (List.replicate n 0) i=0:=by
 unfold nth;simp only[List.getD_eq_getElem?_getD,List.getElem?_replicate];split<;>simp
theorem do6{l:List Int}(h:c9 l=true)(a b z:Nat):nth (b13 l a b) z=((bf3 l (j1 a) (j1 b)).count z:Int):=by
 unfold b13;rw[bc5,ci5 _ _ _ (by intro x hx;rw[List.length_replicate];exact dq3 h x hx),dg6];simp
def cN(l:List Int)(L M:List Nat)(z:Nat):Nat:=(bf3 l L M).count z
def bg6(t:List Int):Nat→Int
 | 0=>0
 | k+1=>bg6 t k+nth t k*nth t k
theorem bw0(t:List Int)(k:Nat):bg6 t (k+1)=bg6 t k+nth t k*nth t k:=rfl
theorem dq4(L M:List Nat)(l:List Int):(bf3 l L M).length=L.length*M.length:=by
 unfold bf3;induction L with
 | nil=>simp
 | cons x L ih=>rw[List.flatMap_cons,List.length_append,ih,List.length_map,List.length_cons,Nat.succ_mul];omega
theorem ce9{l:List Int}(h:c9 l=true)(a b z:Nat):0≤nth (b13 l a b) z∧nth (b13 l a b) z≤576:=by
 rw[do6 h];have h1:=List.count_le_length (a:=z) (l:=bf3 l (j1 a) (j1 b));rw[dq4] at h1;have h2:(j1 a).length*(j1 b).length≤24*24:=Nat.mul_le_mul (C9 a) (C9 b);omega
theorem db4{x:Int}(h0:0≤x)(h:x≤576):0≤x*x∧x*x≤331776 :=
 ⟨Int.mul_nonneg h0 h0,by have:=Int.mul_le_mul h h h0 (by omega:(0:Int)≤576);omega⟩
theorem Z2{l:List Int}(h:c9 l=true)(a b:Nat):∀k,0≤bg6 (b13 l a b) k∧bg6 (b13 l a b) k≤331776*k
 | 0=>by simp[bg6]
 | k+1=>by
  have ih:=Z2 h a b k
  obtain⟨h1,h2⟩:=ce9 h a b k
  have:=db4 h1 h2
  rw[bw0];push_cast;omega
theorem dj3{l:List Int}{a b:Nat}(h:(d8 l a&&d8 l b)=true):bo0 l a b=b13 l a b:=c53 h
end Go.Zz
namespace Go.Zz
open Go.RowKit Go.Proofs
set_option maxHeartbeats 400000
theorem b48{w:World}{p:Addr}{x:Value}(h:w.cell? p=some x)(U:World):(Lat w U).cell? p=some x:=(b9 w U).cell h
theorem bp0(v:Value)(l:List Int)(a b:Int)(w:World)(h:c8 w v l) :
 Calls Tryz.prog 189 #[.agg #[v],.int .i64 a,.int .i64 b] w fun e w'=>∃u,e=.returned u∧Own 3 w w' u (bo0 l a b)∧Ext w w':=by
 obtain⟨wb,Hwb,hE0,hb,hg,hE,Hsz⟩:=j60 28 h;clear h;have hbx:=hb wb hE;cases hs:(d8 l a&&d8 l b)
 · have Hs:=Lib.hid (d78 hs);cases h1:d8 l a
   · go_enter Tryz.func189,Tryz.ntmps189;go_wp2_with fail;rw[←Hwb.out];try rw[Hsz.out]
     go_wp2_with (first | (go_at_call 46;refine cx (l5 _ _ _ _ (hg _ hE) (h1)) hE ?_;clear hE;intro w' hE));go_ret;exact⟨_,rfl,by rw[Hs.out];exact q5 (by omega) (hE0.trans hE) [] rfl,(hE0.trans hE).alloc _⟩
   · have h2:d8 l b=false:=(by simpa[h1] using hs);clear hs;go_enter Tryz.func189,Tryz.ntmps189;go_wp2_with fail;rw[←Hwb.out];try rw[Hsz.out]
     go_wp2_with (first | (go_at_call 46;(first | (with_reducible refine Calls.mono (l5 _ _ a _ (hg _ hE) h1) ?_) | (with_reducible refine Calls.mono (l5 _ _ b _ (hg _ hE) h2) ?_));rintro e w' ⟨rfl,hE'⟩;replace hE:=hE.trans hE';clear hE'));go_ret;exact⟨_,rfl,by rw[Hs.out];exact q5 (by omega) (hE0.trans hE) [] rfl,(hE0.trans hE).alloc _⟩
 · obtain⟨h1,h2⟩:=Bool.and_eq_true_iff.1 hs;obtain⟨a,rfl,-,ha,hgr⟩:=m3 h1;obtain⟨b,rfl,-,hb',-⟩:=m3 h2;have Hs:=Lib.hid (c53 hs);have Hgr:=Lib.hid hgr;have hob:=l8 hgr;clear hs hgr;go_enter Tryz.func189,Tryz.ntmps189;go_wp2_with fail;rw[←Hwb.out];try rw[Hsz.out]
   go_wp2_with (first | (go_at_call 46;(first | (with_reducible refine Calls.mono (l5 _ _ (a:Int) _ (hg _ hE) h1) ?_) | (with_reducible refine Calls.mono (l5 _ _ (b:Int) _ (hg _ hE) h2) ?_));rintro e w' ⟨rfl,hE'⟩;replace hE:=hE.trans hE';clear hE') | (go_at_call 43;refine cx (m4 _ _ _ (hg _ hE) (Hgr)) hE ?_;clear hE;intro w' hE) | (at_make;refine bc7 slI rfl _ _ rfl wb _ (ord l) rfl rfl (by omega) hE ?_;intro w2 hO hE2));rename_i hgd;refine (L8 a ha _).mono ?_;rintro e w1 ⟨v1,rfl,hL,hE1⟩;obtain⟨aoL,cL,rfl⟩:=hL.nshape;go_wp2_with fail;refine (L8 b hb' _).mono ?_;rintro e w3 ⟨v3,rfl,hM,hE3⟩;obtain⟨aoM,cM,rfl⟩:=hM.nshape;obtain⟨g,hgd⟩:∃g,g=w'.heap.size:=⟨_,rfl⟩;rw[←hgd] at hO ⊢;clear hgd;obtain⟨_,hge,hg1,hg2⟩:=hO.row (by simp) (by omega);simp only[Option.some.injEq,Addr.mk.injEq,and_true] at hge;subst hge;have hg3:g<w1.heap.size:=Nat.lt_of_lt_of_le hg2 hE1.size;replace hO:=(hO.ext hE1).ext hE3;replace hL:=hL.ext hE3;replace hE:=hE2.trans (hE1.trans hE3);have hixO:=b23 g (ord l) (ord l);have hall:∀y∈j1 a,y<24:=fun y hy=>G7 hy;have hlen:=C9 a;have hallM:∀y∈j1 b,y<24:=fun y hy=>G7 hy;have hlenM:=C9 b;clear hE1 hE2 hE3 h1 h2 hbx;obtain⟨M,hMd⟩:∃M,M=j1 b:=⟨_,rfl⟩;rw[←hMd] at hM hallM hlenM ⊢;have HMd:=Lib.hid hMd;clear hMd;generalize j1 a=L at hL hall hlen Hs ⊢;go_wp2_with fail;go_loopw [10] (fun i wr=>∃k:Nat,k≤L.length∧i=.int .i64 k∧Own 3 wb wr (.slice (some ⟨g,0,none⟩) (ord l) (ord l)) (G3 l b (List.replicate (ord l) 0) (L.take k))∧Own 3 w2 wr (.slice aoL L.length cL) (d6 L)∧Own 3 w1 wr (.slice aoM M.length cM) (d6 M)∧Ext wb wr) (fun i _=>L.length - (intOf i).toNat);(case atStart=>exact⟨0,by omega,rfl,hO,hL,hM,hE⟩);case round =>
    clear hE hO hL hM;obtain⟨k,hk,rfl,hO,hL,hM,hE⟩:=hrel;by_cases hlt:k<L.length
    · have hx24:=hall _ (o6 hlt);have Hsn:=Lib.hid (c10 l b (List.replicate (ord l) 0) (L.take k) (d5 L k));have Htk:=Lib.hid (S0 L k hlt);have hLk:(L.take k).length≤24:=(by rw[List.length_take];omega);go_wp2_with fail;go_loopw [11] (fun i wq=>∃j:Nat,j≤M.length∧i=.int .i64 j∧Own 3 wb wq (.slice (some ⟨g,0,none⟩) (ord l) (ord l)) (L0 l (d5 L k) (G3 l b (List.replicate (ord l) 0) (L.take k)) (M.take j))∧Own 3 w2 wq (.slice aoL L.length cL) (d6 L)∧Own 3 w1 wq (.slice aoM M.length cM) (d6 M)∧Ext wb wq) (fun i _=>M.length - (intOf i).toNat);(case atStart=>exact⟨0,by omega,rfl,hO,hL,hM,hE⟩);case round =>
       clear hE hO hL hM;obtain⟨j,hj,rfl,hO,hL,hM,hE⟩:=hrel;by_cases hlt2:j<M.length
       · obtain⟨gL,rfl,-,-⟩:=hL.row (j8 L) (by omega);have hcL:=b48 (hL.cellAt (j8 L) hlt).1;rw[bd5] at hcL;have hixL:=b23 gL L.length cL;obtain⟨gM,rfl,-,-⟩:=hM.row (j8 M) (by omega);have hcM:=b48 (hM.cellAt (j8 M) hlt2).1;rw[bd5] at hcM;have hixM:=b23 gM M.length cM;have hbx:=b48 (hb _ hE);have hy24:=hallM _ (o6 hlt2);have Hsn2:=Lib.hid (ca2 l (d5 L k) (G3 l b (List.replicate (ord l) 0) (L.take k)) (M.take j) (d5 M j));have Htk2:=Lib.hid (S0 M j hlt2);have hMj:(M.take j).length≤24:=(by rw[List.length_take];omega);have hfit:=cz0 Hgr.out (b:=b) (x:=d5 L k) hLk hMj (j9 l (d5 L k) (d5 M j));have hzo:=E9 l (m0 Hgr.out) (d5 L k) (d5 M j);have hT:Hid ((L0 l (d5 L k) (G3 l b (List.replicate (ord l) 0) (L.take k)) (M.take j)).length=ord l):=Lib.hid (by rw[b63,b83];simp);generalize L0 l (d5 L k) (G3 l b (List.replicate (ord l) 0) (L.take k)) (M.take j)=T at hO hfit Hsn2 hT;have hEb:=hE;clear hE;have hE:=Ext.refl wr;go_wp2_with fail;(refine d0 (wr) (by kernel_rfl) (by kernel_rfl) hE ?_);(repeat (go_big_quiet_step (first | (go_at_call 190;exact Calls.lat (G5 _ _ _ _ _ ((hg _ (hEb.trans (b9 wr _)))) (Hgr) ((by omega)) ((by omega)))))));(refine wpQuiet_nil ?_);(intro W hE');(replace hE:=l7 hE');(clear hE');replace hO:=hO.ext hE;replace hL:=hL.ext hE;replace hM:=hM.ext hE;replace hEb:=hEb.trans hE;obtain⟨hzc,hzf⟩:=hO.cellAt hT.out hzo;clear hE hcL hcM hbx hixL hixM;go_wp2_with fail;go_roundw;case rel =>
          refine⟨j+1,by omega,by go_num,?_,hL.setCell_below hg2 _,hM.setCell_below hg3 _,hEb.setCell hg1 _⟩;rw[Htk2.out,Hsn2.out];exact (hO.stored_grown hT.out _ _).1
         case measure=>(simp[intOf];omega)
       · have hkl:j=M.length:=(by omega);subst hkl;have hO':Own 3 wb wr (.slice (some ⟨g,0,none⟩) (ord l) (ord l)) (G3 l b (List.replicate (ord l) 0) (L.take (k+1))):=by
          rw[Htk.out,Hsn.out,←HMd.out];rw[List.take_length] at hO;exact hO
         go_wp2_with fail;go_roundw;(case rel=>exact⟨k+1,by omega,by go_num,hO',hL,hM,hE⟩);case measure=>(simp[intOf];omega)
    · have hkl:k=L.length:=(by omega);subst hkl;rw[List.take_length,←Hs.out] at hO;go_wp2_with fail;go_ret;exact⟨_,rfl,hO.mono hE0,hE0.trans hE⟩
end Go.Zz
namespace Go.Zz
open Go.RowKit Go.Proofs
set_option maxHeartbeats 400000
end Go.Zz
namespace Go.Zz
open Go.RowKit Go.Proofs
theorem Own.kept{TI:TypeId}{w0 w w':World}{v:Value}{l:List Int}{row:Option Nat}(h:Own TI w0 w v l)(hg:w.grownBy w' row)(hne:v.ownBlock=none∨v.ownBlock≠row):Own TI w0 w' v l :=
 ⟨h.1.kept hg hne,h.2⟩
end Go.Zz
namespace Go.Zz
open Go.RowKit Go.Proofs
set_option maxHeartbeats 1000000
set_option maxRecDepth 20000
def b75(w0 w:World)(c:Value)(l:List Int)(n:Int)(m:List Int):Prop :=
 ∃v u,c=.agg #[v,.int .i64 n,u]∧Own 3 w0 w v l∧Own 3 w0 w u m∧(v.ownBlock=none∨v.ownBlock≠u.ownBlock)
theorem b75.mono{w0 w1 w:World}{c:Value}{l m:List Int}{n:Int}(h:b75 w1 w c l n m)(hE:Ext w0 w1):b75 w0 w c l n m:=by
 obtain⟨v,u,rfl,h1,h2,h3⟩:=h;exact⟨v,u,rfl,h1.mono hE,h2.mono hE,h3⟩
theorem b75.ext{w0 w w':World}{c:Value}{l m:List Int}{n:Int}(h:b75 w0 w c l n m)(hE:Ext w w'):b75 w0 w' c l n m:=by
 obtain⟨v,u,rfl,h1,h2,h3⟩:=h;exact⟨v,u,rfl,h1.ext hE,h2.ext hE,h3⟩
theorem b26(v:Value)(l:List Int)(w:World)(h:c8 w v l) :
 Calls Tryz.prog 212 #[v] w fun e w'=>∃v',e=.returned v'∧Own 3 w w' v' l∧Ext w w':=by
 have hO:=q5 (TI:=3) (n:=0) (by omega) (Ext.refl w) [] rfl;have hE:=(Ext.refl w).alloc (.cells #[] 3);have hI:=h.ext hE;obtain⟨ao,c,rfl,hc,hlen,-⟩:=h;go_enter Tryz.func212,Tryz.ntmps212;go_wp2_with (at_builtin;refine b85 slI rfl _ _ rfl w _ _ _ _ _ hO hI hE (by simpa using hlen) rfl rfl ?_;intro v1 w1 hO1 hE1);go_ret;exact⟨_,rfl,by simpa using hO1,hE1⟩
end Go.Zz
namespace Go.Zz
open Go.RowKit Go.Proofs
set_option maxHeartbeats 400000
theorem Blk.grown{w w':World}{b:Nat}{T:TypeId}{cs:Array Value}{row:Option Nat}(h:Blk w b T cs)(hg:w.grownBy w' row)(hne:∀k,row=some k→k≠b):Blk w' b T cs:=by
 unfold Blk;rw[hg.block b h.lt (by
  cases row with
  | none=>simp
  | some k=>simp;exact fun e=>hne k rfl (by first | exact e | exact e.symm))]
 exact h
theorem b75.kept{w0 w w':World}{c:Value}{l m:List Int}{n:Int}{row:Option Nat}(h:b75 w0 w c l n m)(hg:w.grownBy w' row)(hr:∀k,row=some k→k<w0.heap.size):b75 w0 w' c l n m:=by
 obtain⟨v,u,rfl,hv,hu,hd⟩:=h;have key:∀{x:Value} {ll:List Int},Own 3 w0 w x ll→Own 3 w0 w' x ll:=fun {x ll} hx=>hx.kept hg (by
  cases hq:x.ownBlock with
  | none=>exact Or.inl rfl
  | some k=>exact Or.inr fun e=>by have:=hr k e.symm;have:=(hx.blk k hq).1;omega)
 exact⟨v,u,rfl,key hv,key hu,hd⟩
end Go.Zz
namespace Go.Zz
open Go.RowKit Go.Proofs
set_option maxHeartbeats 1000000
def Oth(TI:TypeId)(w w':World):Prop:=∀b T cs,T≠TI→Blk w b T cs→Blk w' b T cs
theorem Oth.refl(TI:TypeId)(w:World):Oth TI w w:=fun _ _ _ _ h=>h
theorem Oth.trans{TI:TypeId}{a b c:World}(h:Oth TI a b)(k:Oth TI b c):Oth TI a c:=fun b T cs hT hB=>k b T cs hT (h b T cs hT hB)
theorem Ext.oth{w w':World}(h:Ext w w')(TI:TypeId):Oth TI w w':=fun _ _ _ _ hB=>hB.ext h
theorem bj5{TI T:TypeId}{w0 w:World}{v:Value}{l:List Int}(h:Own TI w0 w v l){g:Nat}{cs:Array Value}(hB:Blk w g T cs)(hT:T≠TI):v.ownBlock≠some g:=fun e=>by
 obtain⟨h1,h2⟩:=h
 rcases h1.2 with ⟨rfl,_⟩ | ⟨g',cap,cur,rfl,_,hh,_⟩
 · cases e
 · simp[Value.ownBlock] at e
   subst e
   have hB':w.heap[g']?=some (.cells cs T (0,0)):=hB
   rw[hB'] at hh
   simp at hh
   exact hT hh.2
theorem dh0{TI:TypeId}{w0 w w':World}{v:Value}{l:List Int}(h:Own TI w0 w v l)(hg:w.grownBy w' v.ownBlock):Oth TI w w':=fun b T cs hT hB =>
 hB.grown hg fun k hk e=>bj5 h hB hT (by rw[hk,e])
theorem cw8{P:Program}{T TI:TypeId}(hT:IntSl P T TI)(ty:TypeId)(wb w0 w:World)(v u:Value)(l m:List Int)(hO:N0 TI wb w0 w v l)(hI:c8 w u m)(hE:Ext w0 w)(hn:l.length+m.length≤17592186044416) :
 ∃v' w',(Builtin.append_ #[T,T] ty #[v,u]).run P w=.ok v' w'∧N0 TI wb w0 w' v' (l++m)∧Ext w0 w'∧Oth TI w w':=by
 obtain⟨i,hi,hz,hs1,hby⟩:=hT.info;obtain⟨ao,c,rfl,hmc,hml,hc⟩:=hI;cases ao with
 | none =>
  have hm:m=[]:=by
   cases m with
   | nil=>rfl
   | cons y m=>obtain⟨_,h,_⟩:=hc 0 (by simp);cases h
  subst hm;refine⟨v,w,?_,by simpa using hO,hE,Oth.refl _ _⟩;rcases hO with ⟨g,-,rfl,rfl,hB⟩ | hO
  · simp[Builtin.append_,run_underlying hT.und,sizeOf,typeInfo,hi,Builtin.lenOf,Builtin.firstCells,storeCells,Result.andThen]
  · rcases hO.1.2 with ⟨rfl,_⟩ | ⟨g,cap,cur,rfl,_,_,hnc,_⟩
    · simp[Builtin.append_,run_underlying hT.und,sizeOf,typeInfo,hi,Builtin.lenOf,Builtin.firstCells]
    · simp[Builtin.append_,run_underlying hT.und,sizeOf,typeInfo,hi,Builtin.lenOf,Builtin.firstCells,hnc,storeCells,Result.andThen]
 | some ad =>
  have hnews:∀j u,(m.map (Value.int .i64))[j]?=some u→w.cell? (ad.add j)=some u:=by
   intro j u hu;have hj:j<m.length:=(by have:=(List.getElem?_eq_some_iff.1 hu).1;simpa using this);obtain⟨a',ha',hc'⟩:=hc j hj;cases ha';rw[hc',←hu,bj3 _ _ hj];simp[hj]
  rcases hO with ⟨g,h0,rfl,rfl,hB⟩ | hO
  · by_cases hm:m=[]
    · subst hm;have hown:w.ownsRow wb.heap.size TI 1 (.slice (some ⟨g,0,none⟩) 0 0) 0 []:=by
       have hB':w.heap[g]?=some (.cells #[] TI (0,0)):=hB;exact⟨by simp,Or.inr ⟨g,0,#[],rfl,h0,hB',Nat.le_refl _,Nat.zero_le _,by simp,by simp⟩⟩
      refine⟨_,w,?_,Or.inl ⟨g,h0,rfl,rfl,hB⟩,hE,Oth.refl _ _⟩;have hrun:=run_append_owned_none (P:=P) w wb.heap.size T ty TI i 1 hT.und hi (.slice (some ⟨g,0,none⟩) 0 0) 0 [] hown;rw[←hrun];simp[Builtin.append_,run_underlying hT.und,sizeOf,typeInfo,hi,Builtin.lenOf,Builtin.firstCells,go_sem]
    · have hpos:0<m.length:=Nat.pos_of_ne_zero (fun e=>hm (List.eq_nil_of_length_eq_zero e));obtain⟨v',w',hrun,r1,r2⟩:=run_append_arg_grows (P:=P) (w:=w) T ty TI i (.int .i64 0) 1 8 hT.und hi hz hs1 hby rfl (by omega) ⟨g,0,none⟩ 0 0 [] (by simp) (by simp) ad m.length c (m.map (Value.int .i64)) (by simp) hnews (by omega) (by unfold maxLen;omega) (by omega);have hO':Own TI w w' v' m:=⟨by simpa using r1,hml⟩;have hE2:Ext w w':=(Ext.refl w).grown r2 (by simp);exact⟨v',w',hrun,Or.inr (by simpa using hO'.mono hE),hE.trans hE2,hE2.oth TI⟩
  · obtain⟨v',w',hrun,r1,r2,-⟩:=run_append_own (P:=P) w w0.heap.size T ty TI i (.int .i64 0) 1 8 hT.und hi hz hs1 hby rfl (by omega) v l.length _ hO.1 ad m.length c (m.map (Value.int .i64)) (by simp) hnews (ints_oneCell _ _) (by unfold maxLen;omega) (by omega) hE.size;exact⟨v',w',hrun,Or.inr ⟨by simpa using r1,by simp;omega⟩,hE.grown r2 fun k hk=>(hO.blk k hk).1,dh0 hO r2⟩
theorem M6{P:Program}{ops:Array Oper}{o:Oper}{a:Act}{w:World}{K:Act→World→Prop}{Q:Exit→Act→World→Prop}{E:Prop}{T TI:TypeId}(hT:IntSl P T TI)
 (hg:o.guard=none) (s x:Operand) (hop:o.op=Op.call { callee:=Callee.builtin Builtin.append,args:=#[s,x],argTypes:=#[T,T] })
 (wb w0:World) (v u:Value) (l m:List Int) (hO:N0 TI wb w0 w v l) (hI:c8 w u m) (hE:Ext w0 w) (hn:l.length+m.length≤17592186044416) (hs:a.eval s=v) (hx:a.eval x=u)
 (hK:∀v' w',N0 TI wb w0 w' v' (l++m)→Ext w0 w'→Oth TI w w'→K (a.put o.dst v') w') :
 if Region.wanted o (yielded ops a.tmps)=true then Oper.wp P o a w K Q else E:=by
 have hw:Region.wanted o (yielded ops a.tmps)=true:=by simp[Region.wanted,hg]
 rw[if_pos hw];obtain⟨v',w',hrun,h1,h2,h3⟩:=cw8 hT o.type wb w0 w v u l m hO hI hE hn;unfold Oper.wp;simp[execOp,hop,resolve,invoke,builtin,hs,hx,hrun,Result.andThen];exact hK v' w' h1 h2 h3
section
variable {P:Program} {ops:Array Oper} {rest:List Oper} {o:Oper} {a:Act} {Q:Exit→Act→World→Prop} {T TI:TypeId}
end
end Go.Zz
namespace Go.Zz
open Go.RowKit Go.Proofs
set_option maxHeartbeats 2000000
def p6(x y:Value):Prop:=∀k,x.ownBlock=some k→y.ownBlock≠some k
theorem p6.symm{x y:Value}(h:p6 x y):p6 y x:=fun k hk e=>h k e hk
theorem p6.or{x y:Value}(h:p6 x y):x.ownBlock=none∨x.ownBlock≠y.ownBlock:=by
 cases hx:x.ownBlock with
 | none=>exact Or.inl rfl
 | some k=>exact Or.inr fun e=>h k hx e.symm
theorem p6.nil_left(y:Value):p6 (.slice none 0 0) y:=fun k hk=>by cases hk
theorem p6.nil_right(x:Value):p6 x (.slice none 0 0):=fun k _ h=>by cases h
structure Own4(w0 w:World)(v1 v2 v3 v4:Value)(g o t q:List Int):Prop where
 h1:Own 3 w0 w v1 g
 h2:Own 3 w0 w v2 o
 h3:Own 3 w0 w v3 t
 h4:Own 3 w0 w v4 q
 d12:p6 v1 v2
 d13:p6 v1 v3
 d14:p6 v1 v4
 d23:p6 v2 v3
 d24:p6 v2 v4
 d34:p6 v3 v4
theorem Own4.ext{w0 w w':World}{v1 v2 v3 v4:Value}{g o t q:List Int}(h:Own4 w0 w v1 v2 v3 v4 g o t q)(hE:Ext w w'):Own4 w0 w' v1 v2 v3 v4 g o t q :=
 ⟨h.h1.ext hE,h.h2.ext hE,h.h3.ext hE,h.h4.ext hE,h.d12,h.d13,h.d14,h.d23,h.d24,h.d34⟩
theorem Own4.mono{w0 w1 w:World}{v1 v2 v3 v4:Value}{g o t q:List Int}(h:Own4 w1 w v1 v2 v3 v4 g o t q)(hE:Ext w0 w1):Own4 w0 w v1 v2 v3 v4 g o t q :=
 ⟨h.h1.mono hE,h.h2.mono hE,h.h3.mono hE,h.h4.mono hE,h.d12,h.d13,h.d14,h.d23,h.d24,h.d34⟩
structure Ints4(w:World)(v1 v2 v3 v4:Value)(g o t q:List Int):Prop where
 g:c8 w v1 g
 o:c8 w v2 o
 t:c8 w v3 t
 q:c8 w v4 q
theorem Ints4.ext{w w':World}{v1 v2 v3 v4:Value}{g o t q:List Int}(h:Ints4 w v1 v2 v3 v4 g o t q)(hE:Ext w w'):Ints4 w' v1 v2 v3 v4 g o t q :=
 ⟨h.g.ext hE,h.o.ext hE,h.t.ext hE,h.q.ext hE⟩
theorem Own4.ints{w0 w:World}{v1 v2 v3 v4:Value}{g o t q:List Int}(h:Own4 w0 w v1 v2 v3 v4 g o t q):Ints4 w v1 v2 v3 v4 g o t q:=⟨h.h1.ints,h.h2.ints,h.h3.ints,h.h4.ints⟩
theorem Own.kept_low{TI:TypeId}{w0 w w':World}{v:Value}{l:List Int}{row:Option Nat}(h:Own TI w0 w v l)(hg:w.grownBy w' row)(hr:∀k,row=some k→k<w0.heap.size):Own TI w0 w' v l :=
 h.kept hg (by
  cases hq:v.ownBlock with
  | none=>exact Or.inl rfl
  | some k=>exact Or.inr fun e=>by have:=hr k e.symm;have:=(h.blk k hq).1;omega)
theorem Own4.kept{w0 w w':World}{v1 v2 v3 v4:Value}{g o t q:List Int}{row:Option Nat}(h:Own4 w0 w v1 v2 v3 v4 g o t q)(hg:w.grownBy w' row)(hr:∀k,row=some k→k<w0.heap.size):Own4 w0 w' v1 v2 v3 v4 g o t q :=
 ⟨h.h1.kept_low hg hr,h.h2.kept_low hg hr,h.h3.kept_low hg hr,h.h4.kept_low hg hr,h.d12,h.d13,h.d14,h.d23,h.d24,h.d34⟩
def CV(k:Int)(v1 v2:Value)(a b s p:Int)(v3 v4:Value)(n:Int):Value:=.agg #[.int .i64 k,v1,v2,.int .i64 a,.int .i64 b,.int .i64 s,.int .i64 p,v3,v4,.int .i64 n]
end Go.Zz
namespace Go.Zz
open Go.RowKit Go.Proofs
set_option maxHeartbeats 400000
end Go.Zz
namespace Go.Zz
open Go.RowKit Go.Proofs
set_option maxHeartbeats 2000000
set_option maxRecDepth 20000
theorem bo6(v:Value)(l:List Int)(w:World)(h:c8 w v l) :
 Calls Tryz.prog 273 #[.agg #[v]] w fun e w'=>∃ao c,e=.returned (.agg #[.slice ao l.length c])∧Own 3 w w' (.slice ao l.length c) l∧Ext w w':=by
 obtain⟨wb,Hwb,hE0,hb,hg,hE,Hsz⟩:=j60 28 h;clear h;obtain⟨wc,hwc⟩:∃wc,wc=wb.alloc (.cells #[.slice none 0 0] 28):=⟨_,rfl⟩;have hBc:Blk wc wb.heap.size 28 #[.slice none 0 0]:=by rw[hwc];exact Blk.new _ _ _
 have hRc:Res wc wb.heap.size 1:=hBc.res (by simp);have hAc:Ext wb wc:=by rw[hwc];exact hE.alloc _
 replace hE:=Ext.refl wc;have Hsz2:Hid (wb.heap.size+1=wc.heap.size):=Lib.hid (by rw[hwc];simp[go_sem]);have Hwc:=Lib.hid hwc;clear hwc hBc;have hgc:∀W,Ext wc W→c8 W v l:=fun W hW=>hg W (hAc.trans hW);have hbc:∀W,Ext wc W→W.cell? ⟨w.heap.size,0,none⟩=some v:=fun W hW=>hb W (hAc.trans hW);go_enter Tryz.func273,Tryz.ntmps273;go_wp2_with fail;rw[←Hwb.out,←Hwc.out];rw[Hsz.out];refine (Calls.sh (b26 _ _ _ (hgc _ hE))).mono ?_;rintro e w1 ⟨ao,c,rfl,hO,hE1⟩;have hr:=hRc.ext hE1;unfold Res at hr;have hwc:wb.heap.size<wc.heap.size:=by have:=Hsz2.out;omega
 go_wp2_with fail;exact bodyPost_ret (v:=.agg #[.slice ao l.length c]) (by simp[results,Tryz.results273,go_sem,hr]) rfl ⟨_,_,rfl,(hO.setCell_below hwc _).mono (hE0.trans hAc),hE0.trans (Ext.setCell (hAc.trans hE1) (Nat.le_refl _) _)⟩
theorem bt4(v:Value)(l:List Int)(w:World)(h:c8 w v l) :
 Calls Tryz.prog 48 #[.agg #[v]] w fun e w'=>∃ao c,e=.returned (.agg #[.slice ao l.length c])∧Own 3 w w' (.slice ao l.length c) l∧Ext w w':=by
 obtain⟨wb,Hwb,hE0,hb,hg,hE,Hsz⟩:=j60 28 h;clear h;obtain⟨wc,hwc⟩:∃wc,wc=wb.alloc (.cells #[.slice none 0 0] 28):=⟨_,rfl⟩;have hBc:Blk wc wb.heap.size 28 #[.slice none 0 0]:=by rw[hwc];exact Blk.new _ _ _
 have hRc:Res wc wb.heap.size 1:=hBc.res (by simp);have hAc:Ext wb wc:=by rw[hwc];exact hE.alloc _
 replace hE:=Ext.refl wc;have Hsz2:Hid (wb.heap.size+1=wc.heap.size):=Lib.hid (by rw[hwc];simp[go_sem]);have Hwc:=Lib.hid hwc;clear hwc hBc;have hgc:∀W,Ext wc W→c8 W v l:=fun W hW=>hg W (hAc.trans hW);have hbc:∀W,Ext wc W→W.cell? ⟨w.heap.size,0,none⟩=some v:=fun W hW=>hb W (hAc.trans hW);have hO:Own 3 wc (wc.alloc (.cells #[] 3)) (.slice (some ⟨wc.heap.size,0,none⟩) 0 0) []:=q5 (TI:=3) (n:=0) (by omega) (Ext.refl wc) [] rfl;have hEl:=(Ext.refl wc).alloc (.cells #[] 3);have hI:=hgc _ hEl;have kb:=hbc _ hEl;have hlen:l.length≤17592186044416:=by obtain⟨_,_,_,_,h',_⟩:=hgc _ hE;exact h'
 have hwc:wb.heap.size<wc.heap.size:=by have:=Hsz2.out;omega
 have ez:wc.heap.size=w.heap.size+1+1:=by have:=Hsz.out;have:=Hsz2.out;omega
 rw[ez] at hO;have hw:wc=(w.alloc (.cells #[v] 28)).alloc (.cells #[.slice none 0 0] 28):=by rw[Hwc.out,Hwb.out]
 have Hw:=Lib.hid hw;rw[hw] at hO hI hEl kb;clear hw ez;go_enter Tryz.func48,Tryz.ntmps48;go_wp2_with (at_builtin;refine b85 slI rfl _ _ rfl _ _ _ _ _ _ hO hI hEl (by simpa using hlen) rfl rfl ?_;intro v1 w1 hO1 hE1;rw[←Hw.out] at hO1 hE1;obtain⟨ao,c,rfl,-⟩:=hO1.shape;have hr:=hRc.ext hE1;unfold Res at hr;rw[←Hsz.out] at hr);exact bodyPost_ret (v:=.agg #[.slice ao ([]++l).length c]) (by simp[results,Tryz.results48,go_sem,hr]) rfl ⟨ao,c,by simp,(by simpa using (Own.setCell_below hO1 (show w.heap.size+1<wc.heap.size by rw[Hsz.out];exact hwc) _).mono (hE0.trans hAc)),hE0.trans (Ext.setCell (hAc.trans hE1) (Nat.le_of_eq Hsz.out.symm) _)⟩
end Go.Zz
namespace Go.Zz
open Go.RowKit Go.Proofs
set_option maxHeartbeats 2000000
set_option maxRecDepth 20000
theorem bn8{P:Program}{ops:Array Oper}{o:Oper}{a:Act}{w:World}{K:Act→World→Prop}{Q:Exit→Act→World→Prop}{E:Prop}{T TI:TypeId}(hT:IntSl P T TI)
 (hg:o.guard=none) (s x:Operand) (hop:o.op=Op.call { callee:=Callee.builtin Builtin.append,args:=#[s,x],argTypes:=#[T,T] })
 (g:Nat) (u:Value) (m:List Int) (hs:a.eval s=.slice (some ⟨g,0,none⟩) 0 0) (hx:a.eval x=u) (hB:Blk w g TI #[]) (hI:c8 w u m) (w0:World) (h0:w0.heap.size≤g) (hE:Ext w0 w)
 (hK:∀ao c w',Own TI w0 w' (.slice ao m.length c) m→(∀k,(Value.slice ao m.length c).ownBlock=some k→k=g∨w.heap.size≤k)→Ext w w'→K (a.put o.dst (.slice ao m.length c)) w') :
 if Region.wanted o (yielded ops a.tmps)=true then Oper.wp P o a w K Q else E:=by
 have hw:Region.wanted o (yielded ops a.tmps)=true:=by simp[Region.wanted,hg]
 rw[if_pos hw];obtain⟨i,hi,hz,hs1,hby⟩:=hT.info;have hown:w.ownsRow w0.heap.size TI 1 (.slice (some ⟨g,0,none⟩) 0 0) 0 []:=by
  have hB':w.heap[g]?=some (.cells #[] TI (0,0)):=hB;exact⟨by simp,Or.inr ⟨g,0,#[],rfl,h0,hB',Nat.le_refl _,Nat.zero_le _,by simp,by simp⟩⟩
 obtain⟨ao,c,rfl,hmc,hml,hc⟩:=hI;have key:m=[]→Oper.wp P o a w K Q:=by
  intro hm;subst hm;have hrun2:(Builtin.append_ #[T,T] o.type #[.slice (some ⟨g,0,none⟩) 0 0,.slice ao 0 c]).run P w=.ok (.slice (some ⟨g,0,none⟩) 0 0) w:=by
   have hrun:=run_append_owned_none (P:=P) w w0.heap.size T o.type TI i 1 hT.und hi (.slice (some ⟨g,0,none⟩) 0 0) 0 [] hown;rw[←hrun];cases ao<;>simp[Builtin.append_,run_underlying hT.und,sizeOf,typeInfo,hi,Builtin.lenOf,Builtin.firstCells,go_sem]
  unfold Oper.wp;simp[execOp,hop,resolve,invoke,builtin,hs,hx,hrun2,Result.andThen];exact hK (some ⟨g,0,none⟩) 0 _ ⟨by simpa using hown,by simp⟩ (fun k hk=>by simp[Value.ownBlock] at hk;exact Or.inl hk.symm) (Ext.refl w)
 by_cases hm:m=[]
 · exact key hm
 · have hpos:0<m.length:=Nat.pos_of_ne_zero (fun e=>hm (List.eq_nil_of_length_eq_zero e));cases ao with
   | none=>obtain⟨_,h,_⟩:=hc 0 hpos;cases h
   | some ad =>
    obtain⟨v',w',hrun,r1,r2⟩:=run_append_arg_grows (P:=P) (w:=w) T o.type TI i (.int .i64 0) 1 8 hT.und hi hz hs1 hby rfl (by omega) ⟨g,0,none⟩ 0 0 [] (by simp) (by simp) ad m.length c (m.map (Value.int .i64)) (by simp) (by
     intro j u hu;have hj:j<m.length:=(by have:=(List.getElem?_eq_some_iff.1 hu).1;simpa using this);obtain⟨a',ha',hc'⟩:=hc j hj;cases ha';rw[hc',←hu,bj3 _ _ hj];simp[hj]) (by omega) (by unfold maxLen;omega) (by omega)
    unfold Oper.wp;simp[execOp,hop,resolve,invoke,builtin,hs,hx,hrun,Result.andThen];have hO':Own TI w w' v' m:=⟨by simpa using r1,hml⟩;obtain⟨ao',c',rfl,-⟩:=hO'.shape;exact hK ao' c' w' (hO'.mono hE) (fun k hk=>Or.inr (hO'.blk k hk).1) ((Ext.refl w).grown r2 (by simp))
theorem cl0(w:World)(a:Addr)(u:Value):w.grownBy (w.setCell a u) (some a.block) :=
 ⟨rfl,rfl,rfl,by simp,fun k _ hk=>Below.heap_setCell _ _ _ _ (fun e=>hk (by rw[e]))⟩
theorem Own.setCell_ne{TI:TypeId}{w0 w:World}{v:Value}{l:List Int}(h:Own TI w0 w v l){p:Addr}(hp:v.ownBlock≠some p.block)(u:Value):Own TI w0 (w.setCell p u) v l :=
 h.kept (cl0 w p u) (Or.inr hp)
theorem Own.ne_blk{TI T:TypeId}{w0 w:World}{v:Value}{l:List Int}(h:Own TI w0 w v l){g:Nat}{cs:Array Value}(hB:Blk w g T cs)(hT:T≠TI):v.ownBlock≠some g:=fun e=>by
 obtain⟨h1,h2⟩:=h
 rcases h1.2 with ⟨rfl,_⟩ | ⟨g',cap,cur,rfl,_,hh,_⟩
 · cases e
 · simp[Value.ownBlock] at e
   subst e
   have hB':w.heap[g']?=some (.cells cs T (0,0)):=hB
   rw[hB'] at hh
   simp at hh
   exact hT hh.2
end Go.Zz
