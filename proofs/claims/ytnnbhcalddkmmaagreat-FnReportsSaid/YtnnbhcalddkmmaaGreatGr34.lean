/- The library's sort at a row of rows of numbers, by the order of atoms. -/
import Derived.Test.YtnnbhcalddkmmaaGreatLz
import Derived.Test.YtnnbhcalddkmmaaGreatGr31
import Derived.Test.YtnnbhcalddkmmaaGreatGr24
set_option linter.unusedSimpArgs false
set_option linter.unusedVariables false
set_option linter.unnecessarySimpa false
set_option maxHeartbeats 4000000
set_option maxRecDepth 8000
namespace Go.Zz
open Go.RowKit Go.Proofs
section
variable {α:Type} [Inhabited α] {enc:α->Value}
theorem d25{w:World}{g off n:Nat}{os:Array Obj}(d:Array α):w.grownBy (sortWorld enc w g off n d os) (some g):=by
 unfold sortWorld;refine⟨rfl,rfl,rfl,zm,fun k hk hne=>?_⟩;rw[Sort.heap_grow_old _ _ (by simpa using hk)];have:g≠k:=fun e=>hne (by rw[e]);simp[Sort.putRow,Sort.mapBlock,Sort.ahead,Array.getElem?_modify,this]
theorem dv5{w:World}{g n:Nat}{os:Array Obj}{cur:Array Value}{e:TypeId}{fr:Nat × Nat}(d:Array α)(hb:w.heap[g]?=some (.cells cur e fr)) :
 (sortWorld enc w g 0 n d os).heap[g]?=some (.cells (Sort.putCells enc 0 d cur) e fr):=by
 have hg:g<w.heap.size:=(Array.getElem?_eq_some_iff.1 hb).1;unfold sortWorld;rw[Sort.heap_grow_old _ _ (by simpa using hg)];simp[Sort.putRow,Sort.mapBlock,Sort.ahead,Array.getElem?_modify,hb,Sort.onCells]
theorem j68(cur:Array Value)(d:Array α)(h:d.size<=cur.size):(Sort.putCells enc 0 d cur).toList.take d.size=d.toList.map enc:=by
 apply List.ext_getElem?;intro j;by_cases hj:j<d.size
 . rw[List.getElem?_take_of_lt hj,Array.getElem?_toList];simp[Sort.putCells,hj,show j<cur.size by omega]
 . rw[List.getElem?_take_eq_none om,List.getElem?_eq_none (by simp;omega)]
end
def SEl(w:World):Type:={ p:Value × List Nat // N8 w p.1 p.2 }
def SEl.hd{w:World}(x:SEl w):Value:=x.1.1
def SEl.ct{w:World}(x:SEl w):List Nat:=x.1.2
def SEl.cf{w:World}(x y:SEl w):Int:=L7 x.ct y.ct
theorem SEl.rb{w:World}(x:SEl w):N8 w x.hd x.ct:=x.2
theorem df9{w:World}:∀(L:List Value) (A:List (List Nat)),Q3 w L A->∃D:List (SEl w),D.map SEl.hd=L∧D.map SEl.ct=A
 | [],[],_=>⟨[],rfl,rfl⟩
 | [],a :: A,h=>by have:=h.1;simp at this
 | u :: L,[],h=>by have:=h.1;simp at this
 | u :: L,a :: A,h=>by
  have h0:=h.2 0 zm
  have hl:=h.1
  obtain⟨D,h1,h2⟩:=df9 L A ⟨by simpa using hl,fun i hi=>by have:=h.2 (i+1) (by simp;omega);simpa using this⟩
  exact⟨(⟨(u,a),by simpa using h0⟩:SEl w) :: D,congrArg (u :: ·) h1,congrArg (a :: ·) h2⟩
theorem jn4(w:World):Sort.SWO (ltOf (SEl.cf (w:=w))) where
 irrefl x:=by unfold ltOf SEl.cf;rw[dz7];rfl
 trans x y z h1 h2:=by
  unfold ltOf SEl.cf at *;rw[decide_eq_true_iff] at *;have h3:=bf4 (a:=x.ct) (b:=y.ct) (c:=z.ct) om om;by_cases e:L7 x.ct z.ct=0
  . have e2:=dn9 e;rw[<-e2,b76] at h2;omega
  . omega
 ntrans x y z h1 h2:=by
  unfold ltOf SEl.cf at *;rw[decide_eq_false_iff_not] at *;rw[b76] at h1 h2 ⊢;have h3:=bf4 (a:=z.ct) (b:=y.ct) (c:=x.ct) om om;omega
theorem j62(w0 w:World)(v:Value)(A:List (List Nat))(hO:E6 w0 w v A)(hA:0<A.length) :
 Calls Tryz.prog 308 #[v,.func (.func 309) #[] #[]] w fun e w'=>e=.returned (.tuple #[])∧E6 w0 w' v (isA A)∧w.grownBy w' v.ownBlock:=by
 obtain⟨L,hOL,hR⟩:=hO.rows;have hlen:=hR.1;have hO1:=hOL.2.1;rcases hO1.2 with ⟨-,hl⟩ | ⟨g,cap,cur,rfl,hg,hh,hnc,hcm,hcs,htk⟩
 . omega
 . obtain⟨D,hD1,hD2⟩:=df9 L A hR;have hDl:D.length=L.length:=(by rw[<-hD1,List.length_map]);have hDA:D.length=A.length:=(by rw[<-hD2,List.length_map]);haveI:Inhabited (SEl w):=⟨D[0]'om⟩;have hH:Sort.Holds SEl.hd w g 0 D.toArray:=by
    intro j hj;have hj':j<D.length:=(by simpa using hj);refine⟨?_,by simp[World.frozen?,hh]⟩;have h1:(cur.toList.take (L.length*1))[j]?=L[j]?:=(by rw[htk]);rw[List.getElem?_take_of_lt om] at h1;simp only[World.cell?,hh,Nat.zero_add];simp only[Option.isSome_none,Bool.false_eq_true,if_false];rw[<-Array.getElem?_toList,h1,<-hD1];simp[hj']
   have hgb:∀(m:Nat) (os:Array Obj) (dk:Array (SEl w)),w.grownBy (sortWorld SEl.hd w g 0 m dk os) (Value.ownBlock (.slice (some ⟨g,0,none⟩) L.length cap)):=fun m os dk=>d25 dk;have hrow:∀(m:Nat) (os:Array Obj) (dk:Array (SEl w)) (x:SEl w),N8 (sortWorld SEl.hd w g 0 m dk os) x.hd x.ct:=fun m os dk x=>x.rb.grown hOL (by decide) (hgb m os dk);have hcmp:CmpLays1 Tryz.prog 309 #[] SEl.hd (SEl.cf (w:=w)) g 0 D.toArray.size w:=by
    intro m os dk hs x y;rw[Array.append_empty];refine (dj2 x.hd y.hd x.ct y.ct _ (hrow m os dk x).ints (hrow m os dk y).ints).mono ?_;rintro e w' ⟨rfl,rfl⟩;exact⟨rfl,0,#[],by rw[Sort.grow_empty];rfl⟩
   have eg:∀args w,(callFunc 309 args).run Tryz.prog w=.ok (.enter 309 args) w:=enters_of Tryz.func309 (by kernel_rfl) rfl;have hcon:=Any.slices_SortFunc Tryz.laysSortF SEl.hd (fun x=>x.rb.one) SEl.cf (jn4 w) 309 #[] g 0 cap D.toArray w eg hcmp hH (Array.getElem?_eq_some_iff.1 hh).1 (by have:=hOL.2.2;simp;omega);rw[show D.toArray.size=L.length by simpa using hDl] at hcon;change Calls Tryz.prog 308 _ _ _ at hcon;refine hcon.mono ?_;rintro e w' ⟨rfl,d',n,os,⟨hp1,-,hp2⟩,hs,rfl⟩;have hd':d'.size=L.length:=(by rw[hp1];simpa using hDl);have hperm:d'.toList.Perm D:=by
    have e1:(d'.extract 0 L.length).toList=d'.toList:=(by rw[<-hd',Array.extract_size]);have e2:(D.toArray.extract 0 L.length).toList=D:=(by rw[<-hDl,<-List.size_toArray,Array.extract_size]);rw[e1,e2] at hp2;exact hp2
   have hctp:(d'.toList.map SEl.ct).Perm A:=(by rw[<-hD2];exact hperm.map _);have hpw:(d'.toList.map SEl.ct).Pairwise leA:=by
    rw[List.pairwise_iff_getElem];intro i j hi hj hij;rw[List.length_map,Array.length_toList] at hi hj;have:=hs i j (Nat.zero_le _) hij om;unfold ltOf SEl.cf at this;rw[decide_eq_false_iff_not,getElem!_pos d' i hi,getElem!_pos d' j hj] at this;rw[List.getElem_map,List.getElem_map,Array.getElem_toList,Array.getElem_toList];unfold leA;rw[b76];omega
   have hS:=dl8 hctp hpw;refine⟨rfl,ct2 (L:=d'.toList.map SEl.hd) ⟨?_,?_,by simpa[hd'] using hOL.2.2⟩ ?_,hgb n os d'⟩
   . intro u hu;obtain⟨x,-,rfl⟩:=List.mem_map.1 hu;exact x.rb.one
   . have hll:(d'.toList.map (SEl.hd (w:=w))).length=L.length:=(by simpa using hd');rw[hll];refine⟨by rw[hll];omega,Or.inr ⟨g,cap,_,rfl,hg,dv5 d' hh,hnc,hcm,by simp[Sort.putCells,hcs],?_⟩⟩;rw[Nat.mul_one,<-hd'];exact j68 cur d' om
   . rw[<-hS];refine⟨zm,fun i hi=>?_⟩;rw[List.length_map,Array.length_toList] at hi;have:=hrow n os d' d'[i];simpa[List.getD,hi] using this
theorem dt5(v:Value)(l:List Int)(w:World)(h:c9 w v l)(hn:atB l=false) :
 Calls Tryz.prog 237 #[.agg #[v]] w fun e w'=>∃ao,e=.returned (.tuple #[.slice ao 0 0,.bool false])∧Ext w w':=by
 obtain⟨wb,Hwb,hE0,hb,hg,hE,Hsz⟩:=ju3 28 h;clear h;have cG:=fun W (hW:Ext wb W)=>A1 v l W (hg W hW);have hE1:=(hE.alloc (.cells #[] 26)).alloc (.cells #[.slice (some ⟨wb.heap.size,0,none⟩) 0 0] 93);have hb1:=hb _ hE1;have kO:((wb.alloc (.cells #[] 26)).alloc (.cells #[.slice (some ⟨wb.heap.size,0,none⟩) 0 0] 93)).cell? ⟨(wb.alloc (.cells #[] 26)).heap.size,0,none⟩=some (.slice (some ⟨wb.heap.size,0,none⟩) 0 0):=(Blk.new _ _ _).cell (i:=0) rfl;have hs1:(wb.alloc (.cells #[] 26)).heap.size=wb.heap.size+1:=zm;rw[hs1] at kO;clear hs1;obtain⟨wc,hwc⟩:=nq ((wb.alloc (.cells #[] 26)).alloc (.cells #[.slice (some ⟨wb.heap.size,0,none⟩) 0 0] 93));rw[<-hwc] at hE1 hb1 kO;have Hwc:=zh hwc;clear hwc;have kO2:=fun W (hW:Ext wc W)=>hW.cell kO;cases hgr:j1 l
 . rw[hgr] at cG;go_in;go_wp2_with fail;rw[<-Hwb.out];rw[Hsz.out];rw[<-Hwc.out];go_wp2_with (go_at_call 94;refine (cG _ hE1).mono ?_;rintro e w1 ⟨rfl,hE2⟩;have hb2:=hb _ (hE1.trans hE2);have kO3:=kO2 _ hE2);exact bodyPost_ret (v:=.tuple #[.slice (some ⟨wb.heap.size,0,none⟩) 0 0,.bool false]) (by simp[results,Tryz.results237,go_sem]) rfl ⟨_,rfl,hE0.trans (hE1.trans hE2)⟩
 . rw[hgr] at cG;have Hgr:=zh hgr;have h9:¬(ord l<=7):=by
    intro h9;unfold atB at hn;rw[hgr,decide_eq_true h9] at hn;cases hn
   have h9I:(7:Int)<(ord l:Int):=om;have cO:=fun W (hW:Ext wb W)=>p7 v l W (hg W hW) Hgr;clear hgr hn;go_in;go_wp2_with fail;rw[<-Hwb.out];rw[Hsz.out];rw[<-Hwc.out];go_wp2_with (first | (go_at_call 94;refine (cG _ hE1).mono ?_;rintro e w1 ⟨rfl,hE2⟩;have hE12:=hE1.trans hE2;have hb2:=hb _ hE12) | (go_at_call 99;refine (cO _ hE12).mono ?_;rintro e w3 ⟨rfl,hE3⟩;have kO3:=kO2 _ (hE2.trans hE3)));exact bodyPost_ret (v:=.tuple #[.slice (some ⟨wb.heap.size,0,none⟩) 0 0,.bool false]) (by simp[results,Tryz.results237,go_sem]) rfl ⟨_,rfl,hE0.trans (hE12.trans hE3)⟩
theorem ca8(v:Value)(l:List Int)(w:World)(h:c9 w v l)(hn:atB l=true) :
 Calls Tryz.prog 237 #[.agg #[v]] w fun e w'=>∃v',e=.returned (.tuple #[v',.bool true])∧E6 w w' v' (atS l)∧Ext w w':=by
 obtain⟨wb,Hwb,hE0,hb,hg,hE,Hsz⟩:=ju3 28 h;clear h;obtain⟨hgr,h7⟩:j1 l=true∧ord l<=7:=by unfold atB at hn;simpa using hn
 have Hgr:=zh hgr;have cG:=fun W (hW:Ext wb W)=>A1 _ l W (hg W hW);rw[hgr] at cG;have cO:=fun W (hW:Ext wb W)=>p7 _ l W (hg W hW) Hgr;have h7I:¬(7:Int)<(ord l:Int):=om;have Hle:=zh (c08 hgr h7);have Hpos:Hid (0<(atL l).length):=zh (by rw[<-bg5];exact (db0 (cf5 hgr h7)).one);clear hgr hn;have hO0:E6 wb (wb.alloc (.cells #[] 26)) (.slice (some ⟨wb.heap.size,0,none⟩) 0 0) []:=c39 hE;have hE1:=(hE.alloc (.cells #[] 26)).alloc (.cells #[.slice (some ⟨wb.heap.size,0,none⟩) 0 0] 93);have hb1:=hb _ hE1;have hs1:(wb.alloc (.cells #[] 26)).heap.size=wb.heap.size+1:=zm;have B1:Blk ((wb.alloc (.cells #[] 26)).alloc (.cells #[.slice (some ⟨wb.heap.size,0,none⟩) 0 0] 93)) (wb.heap.size+1) 93 #[.slice (some ⟨wb.heap.size,0,none⟩) 0 0]:=by rw[<-hs1];exact Blk.new _ _ _
 have hO1:=hO0.ext ((er _).alloc (.cells #[.slice (some ⟨wb.heap.size,0,none⟩) 0 0] 93));obtain⟨wc,hwc⟩:=nq ((wb.alloc (.cells #[] 26)).alloc (.cells #[.slice (some ⟨wb.heap.size,0,none⟩) 0 0] 93));rw[<-hwc] at hE1 hb1 B1 hO1;have Hwc:=zh hwc;clear hwc hO0 hs1;have hmf:∀(fn:Fn) (first cap:Array Value) (w:World),(Instr.makeFunc fn first cap).run Tryz.prog w=.ok (.func fn first cap) w:=fun _ _ _ _=>rfl;have cZ:=jg6 v l Hgr h7 wb w.heap.size (wb.heap.size+1) hb (zh (fun W hW=>hg W hW)) om (ord l+1) [] 0 [];go_in;go_wp2_with fail;rw[<-Hwb.out];rw[Hsz.out];rw[<-Hwc.out];go_wp2_with (first | (go_at_call 94;refine (cG _ hE1).mono ?_;rintro e w1 ⟨rfl,hE2⟩;have hE12:=hE1.trans hE2;have hb2:=hb _ hE12) | (go_at_call 99;refine (cO _ hE12).mono ?_;rintro e w3 ⟨rfl,hE3⟩;have hE13:=hE12.trans hE3;have hb3:=hb _ hE13));have eX:=hE13.trans ((er w3).alloc (.cells #[] 3));have eC:=(hE2.trans hE3).trans ((er w3).alloc (.cells #[] 3));have hlt1:=B1.lt;refine Calls.mono (cZ _ _ _ eX (Or.inl ⟨rfl,_,_,rfl⟩) (B1.ext eC) (hO1.ext eC) (Nat.pow_pos om) zm om zm zm (by rfl) (fun hh=>absurd rfl hh) (by have:=Hle.out;unfold atL at this;simpa[F4] using this)) ?_;rintro e w5 ⟨rfl,vo,hP⟩;have hP1:=hP.1;have hP2:E6 wb w5 vo (atL l):=by have:=hP.2.1;unfold atL;simpa[F4] using this
 have hE5:Ext wb w5:=hP.2.2.1.ext eX om (fun g hg=>by have:=(hO1.blk g hg).1;omega);have hvne:=hP2.not hP1 (by decide);obtain⟨A,hA⟩:=nq (atL l);have HA:=zh hA;have hpos:0<A.length:=by rw[hA];exact Hpos.out
 rw[<-hA] at hP2;have cS:=j62 wb w5 vo A hP2 hpos;have k5:=hP1.cell (i:=0) (v:=vo) rfl;clear cZ hA hpos hP;go_wp2_with (go_at_call 308;refine cS.mono ?_;rintro e w6 ⟨rfl,hO6,hg6⟩;have k6:=(hP1.grown hg6 (fun k hk e=>hvne (by rw[hk,e]))).cell (i:=0) (v:=vo) rfl);have hE6:=hE5.grown hg6 (fun k hk=>(hP2.blk k hk).1);exact bodyPost_ret (v:=.tuple #[vo,.bool true]) (by simp[results,Tryz.results237,go_sem]) rfl ⟨_,rfl,by unfold atS;rw[<-HA.out];exact hO6.mono hE0,hE0.trans hE6⟩
theorem cx6(w:World)(b i:Nat)(v:Value):w.grownBy (w.setCell ⟨b,i,none⟩ v) (some b) :=
 ⟨rfl,rfl,rfl,zm,fun k hk hne=>Below.heap_setCell _ _ _ _ (fun e=>hne (by rw[e]))⟩
def U5(w:World)(g:Nat)(C:List Int):Prop:=Blk w g 3 (C.map (Value.int .i64)).toArray
theorem U5.cell{w:World}{g:Nat}{C:List Int}(h:U5 w g C){i:Nat}(hi:i<C.length):w.cell? ⟨g,i,none⟩=some (.int .i64 (nth C i)):=Blk.cell (i:=i) h (by simp[nth,List.getD,hi])
theorem U5.fr{w:World}{g:Nat}{C:List Int}(h:U5 w g C)(i:Nat):w.frozen? ⟨g,i,none⟩=false:=by
 have h':w.heap[g]?=some (.cells (C.map (Value.int .i64)).toArray 3 (0,0)):=h;simp[World.frozen?,h']
theorem U5.set{w:World}{g:Nat}{C:List Int}(h:U5 w g C)(i:Nat)(x:Int):U5 (w.setCell ⟨g,i,none⟩ (.int .i64 x)) g (C.set i x):=by
 have:=Blk.set h i (.int .i64 x);unfold U5;have e:((C.set i x).map (Value.int .i64)).toArray=(C.map (Value.int .i64)).toArray.setIfInBounds i (.int .i64 x):=by
  rw[List.map_set];simp
 rw[e];exact this
theorem U5.ext{w w':World}{g:Nat}{C:List Int}(h:U5 w g C)(hE:Ext w w'):U5 w' g C:=Blk.ext h hE
theorem jf7(C:List Int)(k:Int)(a:List Nat){j:Nat}(hj:j<a.length):tkB C k (a.take (j+1))=(tkB C k (a.take j)&&decide (0<=nth (tkS C k (a.take (j+1))) (d8 a j))):=by
 unfold tkB;rw[List.length_take,List.length_take,show min (j+1) a.length=j+1 by omega,show min j a.length=j by omega,List.range_succ,List.all_append];congr 1
 . rw[Bool.eq_iff_iff,List.all_eq_true,List.all_eq_true];have e:∀i,i<j->(a.take (j+1)).take (i+1)=(a.take j).take (i+1)∧d8 (a.take (j+1)) i=d8 (a.take j) i:=fun i hi=>by
    refine⟨by rw[List.take_take,List.take_take];congr 1;omega,?_⟩
    simp[d8,List.getD,List.getElem?_take_of_lt (show i<j+1 by omega),List.getElem?_take_of_lt hi]
   constructor
   . intro h i hi;have hi':=List.mem_range.1 hi;have:=h i hi;rw[(e i hi').1,(e i hi').2] at this;exact this
   . intro h i hi;have hi':=List.mem_range.1 hi;have:=h i hi;rw[(e i hi').1,(e i hi').2];exact this
 . rw[List.all_cons,List.all_nil,Bool.and_true];have:d8 (a.take (j+1)) j=d8 a j:=(by simp[d8,List.getD,List.getElem?_take_of_lt (show j<j+1 by omega)]);rw[this,List.take_take,Nat.min_self]
theorem zz179{P:Prop}(h:P:=by exact⟨j+1,om,zg,by rw[Hsn2.out];simp,HRf.out,HGf.out⟩):P:=h
theorem jf6(u:Value)(a:List Nat)(C:List Int)(k:Int)(gL bL n:Nat)(w:World)(hI:∀W,w.grownBy W (some gL)->c9 W u (b9 a))(hk:k=1∨k = -1)(ha:∀x∈a,x<n)(hal:a.length<=50)(hn:C.length=n)(hC:∀y,-100<=nth C y∧nth C y<=100)
 (hL:U5 w gL C) (hB:Blk w bL 26 #[.slice (some ⟨gL,0,none⟩) n n]) (hne:gL≠bL) :
 Calls Tryz.prog 239 #[u,.int .i64 k,.pointer (some ⟨bL,0,none⟩)] w fun e w'=>e=.returned (.bool (tkB C k a))∧U5 w' gL (tkS C k a)∧w.grownBy w' (some gL):=by
 obtain⟨ao,c,adr,rfl,hadr,hcell0⟩:=(hI w (bf8 w _)).nats;have hixU:=j3 (c:=c) elI szI hadr;have hcellU:Hid (∀W,w.grownBy W (some gL)->∀i,i<a.length->W.cell? (adr i)=some (.int .i64 (d8 a i))):=zh (fun W hW i hi=>by
  obtain⟨ao',c',adr',hv,hadr',hcell'⟩:=(hI W hW).nats
  simp only[Value.slice.injEq] at hv
  obtain⟨rfl,-,rfl⟩:=hv
  have h1:=hcell' i W hi (er _)
  have e:adr i=adr' i:=by
   have p1:=hixU i W hi;have p2:=j3 (c:=c) elI szI hadr' i W hi;rw[p1] at p2;simpa using p2
  rw[e];exact h1)
 have hixL:=b65 gL n n;have HB:=zh hB;have Hn:=zh hn;have Hbnd:Hid (∀j x,x<n->j<=a.length -> -200<=nth (tkS C k (a.take j)) x∧nth (tkS C k (a.take j)) x<=200):=zh (fun j x hx hj=>by
  rw[bd0 C k (a.take j) (fun y hy=>by rw[hn];exact ha y (List.mem_of_mem_take hy))]
  have h1:=hC x
  have h2:(a.take j).count x<=50:=nle List.count_le_length (by rw[List.length_take];omega)
  rcases hk with rfl | rfl<;>omega)
 have Hk:=zh hk;have hkb : -1<=k∧k<=1:=by rcases hk with rfl | rfl<;>omega
 clear hadr hcell0 hI hn hC hk hB;go_in;go_wp2_with fail;go_loopw [6,11] (fun bv xv wr=>∃j:Nat,j<=a.length∧xv=.int .i64 j∧bv=.bool (tkB C k (a.take j))∧U5 wr gL (tkS C k (a.take j))∧w.grownBy wr (some gL)) (fun _ xv _=>a.length - (RowKit.intOf xv).toNat);case atStart=>exact⟨0,om,rfl,rfl,hL,bf8 w _⟩
 case round =>
  clear hL;obtain⟨j,hj,rfl,rfl,hR,hG⟩:=hrel;by_cases hlt:j<a.length
  . have hltI:(j:Int)<(a.length:Int):=(by omega);have hcu:=hcellU.out wr hG j hlt;have hbx:=(HB.out.grown hG (fun g hg e=>hne (by cases hg;exact e))).cell (i:=0) (v:=.slice (some ⟨gL,0,none⟩) n n) rfl;have hx:d8 a j<n:=ha _ (o6 hlt);have hlen:(tkS C k (a.take j)).length=n:=(by rw[bh4];exact Hn.out);have hcx:=hR.cell (i:=d8 a j) om;have hbd:=Hbnd.out j _ hx hj;have Hstep:Hid (tkS C k (a.take (j+1))=(tkS C k (a.take j)).set (d8 a j) (nth (tkS C k (a.take j)) (d8 a j) - k)):=zh (by
     have e:a.take (j+1)=a.take j++[d8 a j]:=(by rw[List.take_succ_eq_append_getElem hlt];simp[d8,List.getD,hlt]);rw[e,jf9])
    obtain⟨x,hxd⟩:=nq (d8 a j);have Hsn:=zh (jf7 C k a hlt);rw[<-hxd] at hcu hx hcx hbd Hstep Hsn;obtain⟨D,hD⟩:=nq (tkS C k (a.take j));rw[<-hD] at hR hlen hcx hbd Hstep;obtain⟨b,hb⟩:=nq (tkB C k (a.take j));rw[<-hb] at Hsn ⊢;obtain⟨y,hy⟩:=nq (nth D x);rw[<-hy] at hcx hbd Hstep;clear hxd hD hb hy;have HR:=zh hR;have hfr:=hR.fr x;have HG:=zh hG;have Hlen:=zh hlen;have hwk:IntKind.i64.wrap (y - k)=y - k:=IntWalk.i64_in _ om;have Hsn2:Hid (tkB C k (a.take (j+1))=(b&&decide (0<=y - k))):=zh (by rw[Hsn.out,Hstep.out,ch2 om,if_pos rfl]);have hbxs:∀v,(wr.setCell ⟨gL,x,none⟩ v).drew.cell? ⟨bL,0,none⟩=some (.slice (some ⟨gL,0,none⟩) n n):=fun v=>by
     show (wr.setCell ⟨gL,x,none⟩ v).cell? ⟨bL,0,none⟩=_
     rw[World.cell?_setCell_other _ _ _ _ (by intro e;cases e;exact hne rfl)];exact hbx
    have hcs:(wr.setCell ⟨gL,x,none⟩ (.int .i64 (y - k))).drew.cell? ⟨gL,x,none⟩=some (.int .i64 (y - k)):=World.cell?_setCell_same _ _ _ hcx;have hRf:U5 (wr.setCell ⟨gL,x,none⟩ (.int .i64 (y - k))).drew gL (tkS C k (a.take (j+1))):=(by rw[Hstep.out];exact (HR.out.set x (y - k)).ext ((er _).drew));have hGf:w.grownBy (wr.setCell ⟨gL,x,none⟩ (.int .i64 (y - k))).drew (some gL):=c28 (bp1 HG.out (Nw.refl _ _) (cx6 wr gL x _)) ((er _).drew);have HRf:=zh hRf;have HGf:=zh hGf;have hbxd:wr.drew.cell? ⟨bL,0,none⟩=some (.slice (some ⟨gL,0,none⟩) n n):=hbx;have hcxd:wr.drew.cell? ⟨gL,x,none⟩=some (.int .i64 y):=hcx;have hfrd:wr.drew.frozen? ⟨gL,x,none⟩=false:=hfr;clear hR hG hlen hRf hGf;cases b;all_goals
     go_wp2_with fail
     refine wp_region_held_drew (S:=(fun _=>True)) (by kernel_rfl) (by trivial) (fun hHeld=>?_)
     refine hxn 1 ?_
     refine hxn 3 ?_
     refine hxn 6 ?_
     refine hxr 0 2 (fun K hK=>?_) (fun K hK=>?_)
     . skip
       go_simp
       refine hxo hK (by trivial) (fun hHeld=>?_)
       clear hK K
       refine hxt 2 (h:=fun K hK=>?_)
       go_simp
       refine hxo hK (by trivial) (fun hHeld=>?_)
       clear hK K
       refine hxn 4 ?_
       refine hxt 5 (h:=fun K hK=>?_)
       go_simp
       refine hxo hK (by trivial) (fun hHeld=>?_)
       clear hK K
       refine hxn 7 ?_
       refine hxn 8 ?_
       refine hxt 9 (h:=fun K hK=>?_)
       go_simp
       refine hxo hK (by trivial) (fun hHeld=>?_)
       clear hK K
       refine wpAnyH_done (by kernel_rfl) ?_ _
       go_wp2_with fail
       go_roundw
       case rel=>exact zz179
       case measure=>(simp[RowKit.intOf];omega)
     . skip
       go_simp
       refine hxo hK (by trivial) (fun hHeld=>?_)
       clear hK K
       refine hxn 4 ?_
       refine hxr 0 5 (fun K hK=>?_) (fun K hK=>?_)
       . skip
         go_simp
         refine hxo hK (by trivial) (fun hHeld=>?_)
         clear hK K
         refine hxt 5 (h:=fun K hK=>?_)
         go_simp
         refine hxo hK (by trivial) (fun hHeld=>?_)
         clear hK K
         refine hxn 7 ?_
         refine hxn 8 ?_
         refine hxt 9 (h:=fun K hK=>?_)
         go_simp
         refine hxo hK (by trivial) (fun hHeld=>?_)
         clear hK K
         refine wpAnyH_done (by kernel_rfl) ?_ _
         go_wp2_with fail
         go_roundw
         case rel=>exact zz179
         case measure=>(simp[RowKit.intOf];omega)
       . skip
         go_simp
         refine hxo hK (by trivial) (fun hHeld=>?_)
         clear hK K
         refine hxn 7 ?_
         refine hxt 0 (h:=fun K hK=>?_)
         go_simp
         refine hxo hK (by trivial) (fun hHeld=>?_)
         clear hK K
         refine hxn 8 ?_
         refine hxt 9 (h:=fun K hK=>?_)
         go_simp
         refine hxo hK (by trivial) (fun hHeld=>?_)
         clear hK K
         refine wpAnyH_done (by kernel_rfl) ?_ _
         go_wp2_with fail
         go_roundw
         case rel=>exact zz179
         case measure=>(simp[RowKit.intOf];omega)
  . have hltI:¬(j:Int)<(a.length:Int):=(by omega);have hjl:j=a.length:=om;subst hjl;rw[List.take_length] at hR ⊢;go_wp2_with fail;go_ret;exact⟨rfl,hR,hG⟩
structure Fr2(b g:Nat)(o:Option Nat)(w w':World):Prop where
 os:w'.os=w.os
 tape:w'.tape=w.tape
 output:w'.output=w.output
 size:w.heap.size<=w'.heap.size
 block:∀k,k<w.heap.size->k≠b->k≠g->some k≠o->w'.heap[k]?=w.heap[k]?
theorem Fr2.refl(b g:Nat)(o:Option Nat)(w:World):Fr2 b g o w w:=⟨rfl,rfl,rfl,Nat.le_refl _,fun _ _ _ _ _=>rfl⟩
theorem Fr2.trans{b g:Nat}{o o1:Option Nat}{w w1 w2:World}(h:Fr2 b g o w w1)(hn:Nw o w o1)(k:Fr2 b g o1 w1 w2):Fr2 b g o w w2 :=
 ⟨k.os.trans h.os,k.tape.trans h.tape,k.output.trans h.output,nle h.size k.size,fun i hi hb hg ho=>by
  rw[k.block i (nlt hi h.size) hb hg fun e=>?_,h.block i hi hb hg ho]
  rcases hn with hn | hn
  . rw[hn] at e;exact ho e
  . have:=hn i e.symm;omega⟩
theorem Ext.fr2{w w':World}(h:Ext w w')(b g:Nat)(o:Option Nat):Fr2 b g o w w':=⟨h.os,h.tape,h.output,h.size,fun k hk _ _ _=>h.block k hk⟩
theorem jk9{b g:Nat}{o:Option Nat}{w w':World}(h:w.grownBy w' (some g)):Fr2 b g o w w':=⟨h.os,h.tape,h.output,h.size,fun k hk _ hg _=>h.block k hk (fun e=>hg (by cases e;rfl))⟩
theorem Fr2.ext{b g:Nat}{o:Option Nat}{w0 w w':World}(h:Fr2 b g o w w')(hE:Ext w0 w)(hb:w0.heap.size<=b)(hg:w0.heap.size<=g)(ho:∀k,o=some k->w0.heap.size<=k):Ext w0 w':=by
 have hs:=hE.size;refine⟨h.os.trans hE.os,h.tape.trans hE.tape,h.output.trans hE.output,nle hs h.size,fun k hk=>?_⟩;rw[h.block k (nlt hk hs) om om fun e=>by have:=ho k e.symm;omega];exact hE.block k hk
theorem Fr2.blk{b g:Nat}{o:Option Nat}{w w':World}(h:Fr2 b g o w w'){c:Nat}{T:TypeId}{cs:Array Value}(hB:Blk w c T cs)(hc:c≠b)(hg:c≠g)(ho:o≠some c):Blk w' c T cs:=by
 unfold Blk;rw[h.block c hB.lt hc hg fun e=>ho e.symm];exact hB
theorem D7.set_ne{w0 w:World}{v:Value}{A:List Nat}(h:D7 w0 w v A){b i:Nat}{cs:Array Value}(hB:Blk w b 88 cs)(u:Value):D7 w0 (w.setCell ⟨b,i,none⟩ u) v A:=by
 exact zz164
theorem dm1(va vX vo pT pY:Value)(A:List (List Nat))(X O:List Nat)(i0:Int)(bA bO:Nat)(w00 w0 w:World)(hB:Blk w bO 88 #[vo])(hBA:Blk w bA 93 #[va])(hO:D7 w0 w vo O)(hA:E6 w00 w va A)(hX:c9 w vX (b9 X))(hXo:∀x∈X,x<A.length)(hw:Ext w0 w)(hXl:X.length<=999)(hOn:O.length<1000000000000) :
 Calls Tryz.prog 240 #[.int .i64 i0,.int .i64 0,vX,.pointer (some ⟨bA,0,none⟩),.pointer (some ⟨bO,0,none⟩),pT,pY] w fun e w'=>e=.returned (.tuple #[])∧∃vo',Blk w' bO 88 #[vo']∧D7 w0 w' vo' (O++[X.length])∧Fr bO vo.ownBlock w w'∧Nw vo.ownBlock w vo'.ownBlock:=by
 obtain⟨aoX,cX,adrX,rfl,hadrX,hcellX⟩:=hX.nats;have hixX:=j3 (c:=cX) elI szI hadrX;obtain⟨aoA,cA,rfl,-,hcA⟩:=hA.shape;have HcA:=zh hcA;obtain⟨aoO,cO,rfl,-⟩:=hO.shape;have HBA:=zh hBA;have HB:=zh hB;have HO:=zh hO;have Hcx:=zh hcellX;have hO0:A5 26 w (w.alloc (.cells #[] 26)) (.slice (some ⟨w.heap.size,0,none⟩) 0 0) []:=bn2 (er w);have hE0:=(er w).alloc (.cells #[] 26);clear hadrX hcA hBA hB hO hcellX hX hA;go_in;go_wp2_with fail;go_loopw [10,19] (fun so sj wr=>∃(j:Nat) (M:List Value),j<=X.length∧sj=.int .i64 j∧M.length=j∧A5 26 w wr so M∧Ext w wr) (fun _ sj _=>X.length - (RowKit.intOf sj).toNat);case atStart=>exact⟨0,[],om,rfl,rfl,hO0,hE0⟩
 case round =>
  clear hO0 hE0;obtain⟨j,M,hj,rfl,hM,hOM,hE⟩:=hrel;have HM:=zh hM;obtain⟨aoM,cM,rfl,-⟩:=hOM.shape;clear hM;by_cases hlt:j<X.length
  . have hltI:(j:Int)<(X.length:Int):=(by omega);have hx:d8 X j<A.length:=hXo _ (o6 hlt);have hcx:=Hcx.out j wr hlt hE;obtain⟨x,hxd⟩:=nq (d8 X j);rw[<-hxd] at hx hcx;obtain⟨gA,y,rfl,hcy,hRy⟩:=HcA.out x hx;have hixA:=b84 elV szV gA A.length cA;have kA:=hE.cell hcy;have kB:=(HBA.out.ext hE).cell (i:=0) (v:=.slice (some ⟨gA,0,none⟩) A.length cA) rfl;have cC:=F8 _ _ wr ((hRy.ext hE).ints);have hn:M.length<1000000000000:=(by rw[HM.out];omega);clear hxd hcy hRy;go_wp2_with (first | (go_at_call 212;refine cC.mono ?_;rintro e w2 ⟨v2,rfl,hO2,hE2⟩;obtain⟨ao2,c2,rfl,-⟩:=hO2.shape) | (at_builtin;refine b25 slV rfl _ _ rfl w w2 _ M _ rfl (hOM.ext hE2) (hE.trans hE2) hn rfl rfl ?_;intro v5 w5 hO5 hG5 hN5));go_roundw;(case rel=>exact⟨j+1,_,om,zg,by rw[List.length_append,List.length_singleton,HM.out],hO5,(hE.trans hE2).grown hG5 (fun g hg=>(hOM.blk g hg).1)⟩);case measure=>(simp[RowKit.intOf];omega)
  . have hltI:¬(j:Int)<(X.length:Int):=(by omega);have hjl:j=X.length:=om;obtain⟨L,hL1,hL2,hL3⟩:=HO.out;have kO:=(HB.out.ext hE).cell (i:=0) (v:=.slice aoO O.length cO) rfl;have hn:L.length<1000000000000:=om;have HL1:=zh hL1;have hR:=de9 hOM (by rw[HM.out];omega);clear hL1;go_wp2_with (at_builtin;refine b25 slW rfl _ _ rfl w0 wr _ L _ rfl (hL2.ext hE) (hw.trans hE) hn rfl rfl ?_;intro v5 w5 hO5 hG5 hN5;have hB5:=(HB.out.ext hE).grown hG5 (fun k hk e=>(hL2.ext hE).not (HB.out.ext hE) (by decide) (by rw[hk,e]));have hf5:=hB5.free 0;have hc5:=hB5.cell (i:=0) rfl;obtain⟨ao5,c5,rfl,-⟩:=hO5.shape);have hll:(L++[Value.slice aoM M.length cM]).length=L.length+1:=zm;rw[hll] at hO5 hN5;have hB6:=hB5.set 0 (.slice ao5 (L.length+1) c5);go_wp2_with fail;have hR2:V5 wr (Value.slice aoM M.length cM) X.length:=by
     have e:M.length=X.length:=(by rw[HM.out,hjl]);exact Eq.mp (congrArg (V5 wr (Value.slice aoM M.length cM)) e) hR
    have hOF:=D7.more HL1.out (hL2.ext hE) (fun i hi=>(hL3 i hi).ext hE) hR2 hO5 hG5;refine bodyPost_ret (v:=.tuple #[]) (by simp[results,Tryz.results240,go_sem]) rfl ?_;exact⟨rfl,_,hB6,hOF.set_ne hB5 _,((hE.fr _ _).trans (Nw.refl _ _) ((bi8 hG5).trans hN5 (b96 _ _ _ _ _))),(Nw.refl _ _).trans hE.size hN5⟩
theorem Fr.to2{b g:Nat}{o:Option Nat}{w w':World}(h:Fr b o w w'):Fr2 b g o w w':=⟨h.os,h.tape,h.output,h.size,fun k hk hb _ ho=>h.block k hk hb ho⟩
def b88(g:Nat)(w:World)(u:Value)(a:List Nat):Prop:=(a=[]∧∃ao c,u=.slice ao 0 c)∨(N8 w u a∧u.ownBlock≠some g)
theorem b88.e{g:Nat}{w:World}{u:Value}{a:List Nat}(h:b88 g w u a):W6 w u a:=by
 rcases h with h | h
 . exact Or.inl h
 . exact Or.inr h.1
theorem N7{w:World}{b c:Nat}{T T':TypeId}{cs cs':Array Value}(h:Blk w b T cs)(k:Blk w c T' cs')(hT:T≠T'):b≠c:=fun e=>by
 subst e
 have h':w.heap[b]?=some (.cells cs T (0,0)):=h
 have k':w.heap[b]?=some (.cells cs' T' (0,0)):=k
 rw[h'] at k'
 simp at k'
 exact hT k'.2
theorem b88.fr2{w0 w w':World}{u v:Value}{a:List Nat}{b g:Nat}{cs:Array Value}{A:List Nat}(h:b88 g w u a)(hB:Blk w b 88 cs)(hO:D7 w0 w v A)(hF:Fr2 b g v.ownBlock w w'):b88 g w' u a:=by
 rcases h with h | ⟨⟨h0,k,cap,cs',h1,h2,h3,h4⟩,h5⟩
 . exact Or.inl h
 . refine Or.inr ⟨⟨h0,k,cap,cs',h1,h2,hF.blk h3 (N7 h3 hB (by decide)) (fun e=>h5 (by rw[h1,e];rfl)) (hO.not h3 (by decide)),h4⟩,h5⟩
theorem b88.ext{g:Nat}{w w':World}{u:Value}{a:List Nat}(h:b88 g w u a)(hE:Ext w w'):b88 g w' u a:=by
 rcases h with h | ⟨h1,h2⟩
 . exact Or.inl h
 . exact Or.inr ⟨h1.ext hE,h2⟩
theorem N8.grown_ne{w w':World}{u:Value}{a:List Nat}{g:Nat}(h:N8 w u a)(hn:u.ownBlock≠some g)(hg:w.grownBy w' (some g)):N8 w' u a:=by
 obtain⟨h0,k,cap,cs,h1,h2,h3,h4⟩:=h;exact⟨h0,k,cap,cs,h1,h2,h3.grown hg fun j hj e=>hn (by rw[h1,<-e];exact hj.symm),h4⟩
theorem b88.grown{w w':World}{u:Value}{a:List Nat}{g:Nat}(h:b88 g w u a)(hg:w.grownBy w' (some g)):b88 g w' u a:=by
 rcases h with h | ⟨h1,h2⟩
 . exact Or.inl h
 . exact Or.inr ⟨h1.grown_ne h2 hg,h2⟩
structure FacS(w00:World)(gA mA:Nat)(Y:Nat->Value)(A:List (List Nat))(n bA bL gL:Nat)(bT bY:Nat)(vT vY:Value)(W:World):Prop where
 cA:Blk W bA 93 #[.slice (some ⟨gA,0,none⟩) A.length mA]
 own:E6 w00 W (.slice (some ⟨gA,0,none⟩) A.length mA) A
 row:∀i,i<A.length->W.cell? ⟨gA,i,none⟩=some (Y i)∧N8 W (Y i) (A.getD i [])∧(Y i).ownBlock≠some gL
 cL:Blk W bL 26 #[.slice (some ⟨gL,0,none⟩) n n]
 cT:W.cell? ⟨bT,0,none⟩=some vT
 cY:W.cell? ⟨bY,0,none⟩=some vY
def TrP(w0:World)(bO gL:Nat)(w:World)(vo:Value)(O:List Nat)(C:List Int)(vo':Value)(w':World):Prop:=Blk w' bO 88 #[vo']∧D7 w0 w' vo' O∧U5 w' gL C∧Fr2 bO gL vo.ownBlock w w'∧Nw vo.ownBlock w vo'.ownBlock
theorem TrP.trans{w0 w w1 w3:World}{bO gL:Nat}{vo vo1 vo2:Value}{A B:List Nat}{C D:List Int}(h:TrP w0 bO gL w vo A C vo1 w1)(k:TrP w0 bO gL w1 vo1 B D vo2 w3):TrP w0 bO gL w vo B D vo2 w3 :=
 ⟨k.1,k.2.1,k.2.2.1,h.2.2.2.1.trans h.2.2.2.2 k.2.2.2.1,h.2.2.2.2.trans h.2.2.2.1.size k.2.2.2.2⟩
theorem TrP.refl{w0 w:World}{bO gL:Nat}{vo:Value}{A:List Nat}{C:List Int}(h1:Blk w bO 88 #[vo])(h2:D7 w0 w vo A)(h3:U5 w gL C):TrP w0 bO gL w vo A C vo w:=⟨h1,h2,h3,Fr2.refl _ _ _ _,Nw.refl _ _⟩
theorem D7.row{w0 w w':World}{v:Value}{A:List Nat}{g:Nat}{C:List Int}(h:D7 w0 w v A)(hB:U5 w g C)(hg:w.grownBy w' (some g)):D7 w0 w' v A:=by
 obtain⟨M,h1,hL,h5⟩:=h;obtain⟨h2,h3,h4⟩:=id hL;refine⟨M,h1,⟨h2,h3.kept hg ?_,h4⟩,fun i hi=>?_⟩
 . cases hv:v.ownBlock with
   | none=>simp
   | some k =>
    simp;intro e;exact hL.not hB (by decide) (by rw[hv,e])
 . obtain⟨k0,M',k1,k2,k3⟩:=h5 i hi;refine⟨k0,M',k1,k2,?_⟩;rcases k3 with k3 | ⟨k,cap,cs,k3,k4,k5,k6⟩
   . exact Or.inl k3
   . exact Or.inr ⟨k,cap,cs,k3,k4,k5.grown hg (fun j hj e=>by cases hj;exact N7 k5 hB (by decide) e.symm),k6⟩
theorem TrP.row{w0 w w1 w2:World}{bO gL:Nat}{vo vo1:Value}{A:List Nat}{C D:List Int}(h:TrP w0 bO gL w vo A C vo1 w1)(hR:U5 w2 gL D)(hg:w1.grownBy w2 (some gL)):TrP w0 bO gL w vo A D vo1 w2 :=
 ⟨h.1.grown hg (fun j hj e=>by cases hj;exact N7 h.1 h.2.2.1 (by decide) e.symm),h.2.1.row h.2.2.1 hg,hR,h.2.2.2.1.trans h.2.2.2.2 (jk9 hg),h.2.2.2.2⟩
theorem TrP.ext{w0 w w1 w2:World}{bO gL:Nat}{vo vo1:Value}{A:List Nat}{C:List Int}(h:TrP w0 bO gL w vo A C vo1 w1)(hE:Ext w1 w2):TrP w0 bO gL w vo A C vo1 w2 :=
 ⟨h.1.ext hE,h.2.1.ext hE,h.2.2.1.ext hE,h.2.2.2.1.trans h.2.2.2.2 (hE.fr2 _ _ _),h.2.2.2.2⟩
theorem d69{n:Nat}{C R:List Int}(h:bd4 n C R)(hR:R.length<=10)(y:Nat):0<=nth C y∧nth C y<=10:=by
 by_cases hy:y<n
 . rw[h.2 y hy];have:=List.count_le_length (a:=(y:Int)) (l:=R);omega
 . have:nth C y=0:=by
    unfold nth;rw[List.getD_eq_getElem?_getD,List.getElem?_eq_none (by rw[h.1];omega)];rfl
   omega
theorem ju2{n:Nat}{C R:List Int}(h:bd4 n C R)(hR:R.length<=10){a:List Nat}(ha:∀x∈a,x<n)(hl:a.length<=50)(y:Nat) : -100<=nth (tkS C 1 a) y∧nth (tkS C 1 a) y<=100:=by
 rw[bd0 _ _ _ (by rw[h.1];exact ha)];have h1:=d69 h hR y;have h2:a.count y<=50:=nle List.count_le_length hl;omega
theorem jc0(d:Nat)(L:List Nat):((L.map (· + 1)).map (d + ·))=L.map (d+1 + ·):=by
 rw[List.map_map];apply List.map_congr_left;intro x _;simp;omega
theorem c37{P:Program}{o:Oper}{a:Act}{w:World}{K:Act->World->Prop}{Q:Exit->Act->World->Prop}{T TI:TypeId}(hT:IntSl P T TI)
 (s x:Operand) (hop:o.op=Op.call { callee:=Callee.builtin Builtin.append,args:=#[s,x],argTypes:=#[T,T] })
 (wb w0:World) (v u:Value) (l m:List Int) (hO:J3 TI wb w0 w v l) (hI:c9 w u m) (hE:Ext w0 w) (hn:l.length+m.length<=17592186044416) (hs:a.eval s=v) (hx:a.eval x=u)
 (hK:∀v' w',J3 TI wb w0 w' v' (l++m)->Ext w0 w'->Oth TI w w'->K (a.put o.dst v') w'):Oper.wp P o a w K Q:=by
 obtain⟨v',w',hrun,h1,h2,h3⟩:=c48 hT o.type wb w0 w v u l m hO hI hE hn;exact zz72
theorem dp4{w00:World}{gA cA:Nat}{Y:Nat->Value}{A:List (List Nat)}{n bA bL gL bT bY:Nat}{vT vY:Value}{W:World}(h:FacS w00 gA cA Y A n bA bL gL bT bY vT vY W){k:Nat}(hk:k<A.length){D:List Int}(hR:U5 W gL D)(hD:D.length=n)(hb:∀y,-100<=nth D y∧nth D y<=100){m:Int}(hm:m=1∨m = -1)(ha:∀x∈A.getD k [],x<n)(hl:(A.getD k []).length<=50) :
 Calls Tryz.prog 239 #[Y k,.int .i64 m,.pointer (some ⟨bL,0,none⟩)] W fun e w'=>e=.returned (.bool (tkB D m (A.getD k [])))∧U5 w' gL (tkS D m (A.getD k []))∧W.grownBy w' (some gL):=by
 obtain⟨hcy,hRy,hny⟩:=h.row k hk;exact jf6 _ _ D m gL bL n W (fun W' hW=>(hRy.grown_ne hny hW).ints) hm ha hl hD hb hR h.cL (N7 hR h.cL (by decide))
theorem zz16{P:Prop}(h:P:=by refine hxo hK (by first | exact hkF | exact kS _ xq) (fun hHeld=>?_);clear hK K;refine hxt 13 (h:=fun K hK=>?_);(refine c37 slI _ _ rfl w2 w2 _ _ (b9 X) [(k:Int)] (Or.inr (by first | exact hOC2 | exact hOC2.alloc _ | exact (hOC2.alloc _).drew)) (Blk.ints1 (T:=3) zq2) xq hln rfl rfl ?_);intro vD wD hOD hXD hTD;obtain⟨aoN,cN,rfl,hON,hEN⟩:=NxP.of hOD hXD;refine hxo hK (by first | exact hkF | exact kS _ xq) (fun hHeld=>?_);clear hK K;refine hxt 14 (h:=fun K hK=>?_);go_simp;(go_at_call 240;(with_reducible refine Calls.mono (cI wD _ hEN (HRY.out _ _ hON)) ?_);rintro e wF ⟨rfl,vF,hPF⟩);have hP5:=(hP2.ext hEN).trans hPF;have hkF:=HF2.out _ _ _ hP5;refine hxo hK (by first | exact hkF | exact kS _ xq) (fun hHeld=>?_);clear hK K;refine wpAnyH_done (by kernel_rfl) ?_ _;go_wp2_with fail;go_meet;exact⟨_,hP5⟩):P:=h
theorem jg4(gA cA:Nat)(Y:Nat->Value)(A:List (List Nat))(n bA bO bL bT bY gL:Nat)(o0:Option Nat)(w00 w0 wb:World)(h48:A.length<=48)(h1a:∀a∈A,1<=a.length)(hAn:∀a∈A,a.length<=50∧∀x∈a,x<n)
 (HZ:Hid (∀W,Fr2 bO gL o0 wb W->FacS w00 gA cA Y A n bA bL gL bT bY (.func (.func 239) #[] #[.pointer (some ⟨bL,0,none⟩)]) (.func (.func 240) #[] #[.pointer (some ⟨bA,0,none⟩),.pointer (some ⟨bO,0,none⟩),.pointer (some ⟨bT,0,none⟩),.pointer (some ⟨bY,0,none⟩)]) W))
 (hE0:Ext w0 wb) (hbO:w0.heap.size<=bO) (hgL:w0.heap.size<=gL) (ho0:∀k,o0=some k->w0.heap.size<=k) (hgLb:gL<wb.heap.size) :
 ∀(f i0:Nat) (R:List Int) (X O:List Nat) (C:List Int) (vX vo:Value) (w:World),R.length<f->X.length+R.length<=10->i0<=A.length->Fr2 bO gL o0 wb w->Nw o0 wb vo.ownBlock->b88 gL w vX X->(∀x∈X,x<A.length)->Blk w bO 88 #[vo]->D7 w0 w vo O->U5 w gL C->bd4 n C R->O.length+(R8 A f i0 R).length<=254803968 ->
 Calls Tryz.prog 240 #[.int .i64 i0,.int .i64 R.length,vX,.pointer (some ⟨bA,0,none⟩),.pointer (some ⟨bO,0,none⟩),.pointer (some ⟨bT,0,none⟩),.pointer (some ⟨bY,0,none⟩)] w fun e w'=>e=.returned (.tuple #[])∧∃vo',TrP w0 bO gL w vo (O++(R8 A f i0 R).map (X.length + ·)) C vo' w':=by
 intro f;induction f with
 | zero=>intro i0 R X O C vX vo w hf;omega
 | succ f ih =>
  intro i0 R X O C vX vo w hf hXR hi0 hZ hNo hX hXo hB hO hR hC hK;have hR10:R.length<=10:=om;by_cases h0:R.length=0
  . have hS:=HZ.out w hZ;have q:=dm1 (.slice (some ⟨gA,0,none⟩) A.length cA) vX vo (.pointer (some ⟨bT,0,none⟩)) (.pointer (some ⟨bY,0,none⟩)) A X O (i0:Int) bA bO w00 w0 w hB hS.cA hO hS.own hX.e.ints hXo (hZ.ext hE0 hbO hgL ho0) om om;rw[bm4 h0,show ((R.length:Nat):Int)=0 by omega];refine q.mono ?_;rintro e w' ⟨rfl,vo',h1,h2,h3,h4⟩;exact⟨rfl,vo',h1,h2,h3.blk hR (N7 hR hB (by decide)) (hO.not hR (by decide)),h3.to2,h4⟩
  . have hRq:(((R.length:Nat):Int) == 0)=false:=(by rw[beq_eq_false_iff_ne];omega);have Hih:=zh ih;have HK:=zh hK;have Hend:=zh (bi6 (A:=A) (f:=f) (i0:=i0) (R:=R) h0);have Hmono:=zh (fun k d=>c19 A f i0 R k d);have HAn:=zh hAn;have H1a:=zh h1a;have HXo:=zh hXo;have HC:=zh hC;have HP0:=zh (TrP.refl hB hO hR);have HZw:=zh hZ;have HNo:=zh hNo;have HXR:=zh (And.intro hf hXR);have HXp:=zh (fun W O' D' u' (hQ:TrP w0 bO gL w vo O' D' u' W)=>hX.fr2 hB hO hQ.2.2.2.1);have Hbase:=zh (And.intro hZ.size hgLb);obtain⟨aoX,cX,rfl⟩:=hX.e.shape;clear ih hK h0 hX hXo hC hB hO hR hZ hNo hAn h1a hE0 hbO hgL ho0 hgLb hf hXR;go_in;go_wp2_with fail;go_loopw [13] (fun xv wr=>∃(k:Nat) (u:Value),i0<=k∧k<=A.length∧xv=.int .i64 k∧TrP w0 bO gL w vo (O++(R9 A f i0 R k).map (X.length + ·)) C u wr) (fun xv _=>A.length - (RowKit.intOf xv).toNat);(case atStart=>exact⟨i0,vo,Nat.le_refl _,hi0,rfl,by rw[b12 A f i0 R i0 (Nat.le_refl _),List.map_nil,List.append_nil];exact HP0.out⟩);case round =>
     clear HP0;obtain⟨k,u,hk1,hk2,rfl,hP⟩:=hrel;have hPd:=hP.ext ((er wr).drew);have S1:=HZ.out _ (HZw.out.trans HNo.out hPd.2.2.2.1);have kA:wr.cell? ⟨bA,0,none⟩=some (.slice (some ⟨gA,0,none⟩) A.length cA):=S1.cA.cell (i:=0) rfl;by_cases hlt:k<A.length
     . have hltI:(k:Int)<(A.length:Int):=(by omega);obtain⟨haL,han⟩:=HAn.out _ (c85 hlt);have cnt:=fun y=>d69 HC.out hR10 y;have cT:=dp4 S1 hlt hPd.2.2.1 HC.out.1 (fun y=>by have:=cnt y;omega) (Or.inl rfl) han haL;rw[js8 HC.out han] at cT;have tkb:=ju2 HC.out hR10 han haL;have hRk:=(S1.row k hlt).2.1;have Hno:=zh (fun h=>dp3 (A:=A) (f:=f) (i0:=i0) (R:=R) (k:=k) h);have Hyes:=zh (fun h=>d94 (A:=A) (f:=f) (i0:=i0) (R:=R) (k:=k) hk1 h);have Hcnt:=zh (fun h=>js7 HC.out han h);have Hrl:=zh (fun h=>bh3 (A.getD k []) R h);have Hback:=zh (jf8 C (A.getD k []) (fun x hx=>by rw[HC.out.1];exact han x hx));have ha1:=H1a.out _ (c85 hlt);have HF0:∀(O':List Nat) (D':List Int) (u':Value) (w3:World),TrP w0 bO gL w vo O' D' u' w3->w3.cell? ⟨bT,0,none⟩=some (.func (.func 239) #[] #[.pointer (some ⟨bL,0,none⟩)])∧w3.cell? ⟨bY,0,none⟩=some (.func (.func 240) #[] #[.pointer (some ⟨bA,0,none⟩),.pointer (some ⟨bO,0,none⟩),.pointer (some ⟨bT,0,none⟩),.pointer (some ⟨bY,0,none⟩)])∧w3.cell? ⟨bA,0,none⟩=some (.slice (some ⟨gA,0,none⟩) A.length cA)∧w3.cell? ⟨gA,k,none⟩=some (Y k):=fun O' D' u' w3 hQ=>by
        have S3:=HZ.out _ (HZw.out.trans HNo.out hQ.2.2.2.1)
        exact⟨S3.cT,S3.cY,S3.cA.cell (i:=0) rfl,(S3.row k hlt).1⟩
       have HT0:∀(O':List Nat) (u':Value) (w3:World),TrP w0 bO gL w vo O' (tkS C 1 (A.getD k [])) u' w3->Calls Tryz.prog 239 #[Y k,.int .i64 (-1),.pointer (some ⟨bL,0,none⟩)] w3 fun e w'=>(∃b,e=.returned (.bool b))∧TrP w0 bO gL w vo O' C u' w':=fun O' u' w3 hQ=>by
        have S3:=HZ.out _ (HZw.out.trans HNo.out hQ.2.2.2.1)
        have q:=dp4 S3 hlt hQ.2.2.1 (by rw[bh4];exact HC.out.1) tkb (Or.inr rfl) han haL
        rw[Hback.out] at q
        exact q.mono fun e w' hh=>⟨⟨_,hh.1⟩,hQ.row hh.2.1 hh.2.2⟩
       obtain⟨a,had⟩:=nq (A.getD k []);obtain⟨y,hyd⟩:=nq (Y k);simp only[<-had,<-hyd] at cT HF0 HT0 hRk;rw[<-had] at haL han Hno Hyes Hcnt Hrl Hback ha1;obtain⟨-,gy,cy,-,rfl,-,-,-⟩:=hRk;have HF:=zh HF0;have HT:=zh HT0;obtain⟨sT,-,kd,hcy⟩:=HF0 _ _ _ _ hPd;have hixA:=b84 elV szV gA A.length cA;have HPd:=zh hPd;clear S1 had hyd hP hPd cnt HF0 HT0 tkb;cases hb:P2 R (b9 a)
       . have HnoE:=zh (Hno.out hb);rw[hb] at cT;clear Hno Hyes Hcnt Hrl hb;go_wp2_with fail;refine wp_region_held_drew (S:=(fun W=>W.cell? ⟨bT,0,none⟩=some (.func (.func 239) #[] #[.pointer (some ⟨bL,0,none⟩)])∧W.cell? ⟨bA,0,none⟩=some (.slice (some ⟨gA,0,none⟩) A.length cA)∧W.cell? ⟨gA,k,none⟩=some (.slice (some ⟨gy,0,none⟩) a.length cy))) (by kernel_rfl) (by exact⟨sT,kd,hcy⟩) (fun hHeld=>?_);refine hxn 0 ?_;refine hxn 1 ?_;refine hxn 2 ?_;refine hxn 3 ?_;refine hxn 4 ?_;refine hxt 5 (h:=fun K hK=>?_);go_simp;(go_at_call 239;(with_reducible refine Calls.mono cT ?_);rintro e w2 ⟨rfl,hR2,hG2⟩);have hP2:=HPd.out.row hR2 hG2;obtain⟨t1,-,t2,t3⟩:=HF.out _ _ _ _ hP2;refine hxo hK (by exact⟨t1,t2,t3⟩) (fun hHeld=>?_);clear hK K;refine wpAnyH_done (by kernel_rfl) ?_ _;go_wp2_with fail;have cT2:=HT.out _ _ _ (hP2.ext ((er w2).drew));refine wp_region_held_drew (S:=(fun W=>W.cell? ⟨bT,0,none⟩=some (.func (.func 239) #[] #[.pointer (some ⟨bL,0,none⟩)])∧W.cell? ⟨bA,0,none⟩=some (.slice (some ⟨gA,0,none⟩) A.length cA)∧W.cell? ⟨gA,k,none⟩=some (.slice (some ⟨gy,0,none⟩) a.length cy))) (by kernel_rfl) (by exact⟨t1,t2,t3⟩) (fun hHeld=>?_);refine hxn 0 ?_;refine hxn 1 ?_;refine hxn 2 ?_;refine hxn 3 ?_;refine hxn 4 ?_;refine hxt 5 (h:=fun K hK=>?_);go_simp;(go_at_call 239;(with_reducible refine Calls.mono cT2 ?_);rintro e w4 ⟨⟨b4,rfl⟩,hP4⟩);obtain⟨r1,-,r2,r3⟩:=HF.out _ _ _ _ hP4;refine hxo hK (by exact⟨r1,r2,r3⟩) (fun hHeld=>?_);clear hK K;refine wpAnyH_done (by kernel_rfl) ?_ _;go_wp2_with fail;go_roundw;(case rel=>exact⟨k+1,u,om,om,zg,by rw[HnoE.out];exact hP4⟩);case measure=>(simp[RowKit.intOf];omega)
       . have hyE:=Hyes.out hb;have hcn:=Hcnt.out hb;have hrl:=Hrl.out hb;rw[hb] at cT;obtain⟨N,hNd⟩:=nq ((O5 R a).length);have hwk:IntKind.i64.wrap (((R.length:Nat):Int) - ((a.length:Nat):Int))=(N:Int):=(by rw[IntWalk.i64_in _ om];omega);have hln:(b9 X).length+[(k:Int)].length<=17592186044416:=(by have:=HXR.out.2;rw[j2];simp;omega);have hX1:(X++[k]).length<=1000:=(by have:=HXR.out.2;simp;omega);have HyE:=zh hyE;have Hcn:=zh hcn;have Hrl2:=zh (And.intro hrl ha1);have HNd:=zh hNd;have hkF:=True.intro;clear Hno Hyes Hcnt Hrl hb hyE hcn hrl hNd;go_wp2_with fail;refine wp_region_held_drew (S:=(fun W=>W.cell? ⟨bT,0,none⟩=some (.func (.func 239) #[] #[.pointer (some ⟨bL,0,none⟩)])∧W.cell? ⟨bA,0,none⟩=some (.slice (some ⟨gA,0,none⟩) A.length cA)∧W.cell? ⟨gA,k,none⟩=some (.slice (some ⟨gy,0,none⟩) a.length cy))) (by kernel_rfl) (by exact⟨sT,kd,hcy⟩) (fun hHeld=>?_);refine hxn 0 ?_;refine hxn 1 ?_;refine hxn 2 ?_;refine hxn 3 ?_;refine hxn 4 ?_;refine hxt 5 (h:=fun K hK=>?_);go_simp;(go_at_call 239;(with_reducible refine Calls.mono cT ?_);rintro e w2 ⟨rfl,hR2,hG2⟩);have hP2:=HPd.out.row hR2 hG2;obtain⟨t1,-,t2,t3⟩:=HF.out _ _ _ _ hP2;refine hxo hK (by exact⟨t1,t2,t3⟩) (fun hHeld=>?_);clear hK K;refine wpAnyH_done (by kernel_rfl) ?_ _;go_upto_region 12 with fail;have cI:∀W vN,Ext w2 W->b88 gL W vN (X++[k])->Calls Tryz.prog 240 #[.int .i64 k,.int .i64 N,vN,.pointer (some ⟨bA,0,none⟩),.pointer (some ⟨bO,0,none⟩),.pointer (some ⟨bT,0,none⟩),.pointer (some ⟨bY,0,none⟩)] W fun e w'=>e=.returned (.tuple #[])∧∃vo',TrP w0 bO gL W u (O++(R9 A f i0 R (k+1)).map (X.length + ·)) (tkS C 1 a) vo' w':=fun W vN hW hI=>by
          have hQ:=hP2.ext hW
          have h1:=HK.out
          have h2:=Hmono.out (k+1) (A.length - (k+1))
          rw[show k+1+(A.length - (k+1))=A.length by omega,<-Hend.out,HyE.out,List.length_append,List.length_map] at h2
          have h3:=HXR.out
          have h4:=Hrl2.out
          have q:=Hih.out k (O5 R a) (X++[k]) (O++(R9 A f i0 R k).map (X.length + ·)) (tkS C 1 a) vN u W om (by rw[List.length_append,List.length_singleton];omega) om (HZw.out.trans HNo.out hQ.2.2.2.1) (HNo.out.trans HZw.out.size hQ.2.2.2.2) hI (fun x hx=>by
           rw[List.mem_append,List.mem_singleton] at hx
           rcases hx with hx | rfl
           . exact HXo.out x hx
           . exact hlt) hQ.1 hQ.2.1 hQ.2.2.1 Hcn.out (by rw[List.length_append,List.length_map];omega)
          rw[List.length_append,List.length_singleton,List.append_assoc,<-jc0,<-List.map_append,<-HyE.out,<-HNd.out] at q
          exact q
         have HXi:=zh (fun W (hW:Ext w2 W)=>((HXp.out _ _ _ _ (hP2.ext hW))).e.ints);have HRY:Hid (∀W v,Own 3 w2 W v (b9 (X++[k]))->b88 gL W v (X++[k])):=zh (fun W v hO=>Or.inr ⟨b72 hO zm hX1,fun e=>by
          have h1:=(hO.blk _ e).1
          have h2:=hP2.2.2.2.1.size
          have h3:=Hbase.out
          omega⟩)
         have kS:∀W,Ext w2 W->W.cell? ⟨bY,0,none⟩=some (.func (.func 240) #[] #[.pointer (some ⟨bA,0,none⟩),.pointer (some ⟨bO,0,none⟩),.pointer (some ⟨bT,0,none⟩),.pointer (some ⟨bY,0,none⟩)])∧W.cell? ⟨bA,0,none⟩=some (.slice (some ⟨gA,0,none⟩) A.length cA)∧W.cell? ⟨gA,k,none⟩=some (.slice (some ⟨gy,0,none⟩) a.length cy):=fun W hW=>(HF.out _ _ _ _ (hP2.ext hW)).2;have HF2:Hid (∀O' u' W,TrP w0 bO gL w vo O' (tkS C 1 a) u' W->W.cell? ⟨bY,0,none⟩=some (.func (.func 240) #[] #[.pointer (some ⟨bA,0,none⟩),.pointer (some ⟨bO,0,none⟩),.pointer (some ⟨bT,0,none⟩),.pointer (some ⟨bY,0,none⟩)])∧W.cell? ⟨bA,0,none⟩=some (.slice (some ⟨gA,0,none⟩) A.length cA)∧W.cell? ⟨gA,k,none⟩=some (.slice (some ⟨gy,0,none⟩) a.length cy)):=zh (fun O' u' W hQ=>(HF.out _ _ _ _ hQ).2);have hH0:Ext w2 w2:=er _;go_cut [] (fun wx=>∃vF,TrP w0 bO gL w vo (O++(R9 A f i0 R (k+1)).map (X.length + ·)) (tkS C 1 a) vF wx);case first =>
          refine wp_region_held_drew (S:=(fun W=>W.cell? ⟨bY,0,none⟩=some (.func (.func 240) #[] #[.pointer (some ⟨bA,0,none⟩),.pointer (some ⟨bO,0,none⟩),.pointer (some ⟨bT,0,none⟩),.pointer (some ⟨bY,0,none⟩)])∧W.cell? ⟨bA,0,none⟩=some (.slice (some ⟨gA,0,none⟩) A.length cA)∧W.cell? ⟨gA,k,none⟩=some (.slice (some ⟨gy,0,none⟩) a.length cy))) (by kernel_rfl) (by exact kS _ xq) (fun hHeld=>?_);refine hxn 0 ?_;refine hxn 1 ?_;refine hxn 2 ?_;refine hxn 3 ?_;refine hxn 4 ?_;refine hxn 5 ?_;refine hxn 6 ?_;refine hxn 7 ?_;refine hxn 8 ?_;refine hxn 9 ?_;refine hxn 11 ?_;refine hxr 10 12 (fun K hK=>?_) (fun K hK=>?_)
          . skip;go_simp;(go_at_call 212;(with_reducible refine Calls.mono (Calls.sh (F8 _ _ _ (HXi.out _ xq))) ?_);rintro eC wC ⟨aoC,cC,rfl,hOC,hXC⟩);have hHC:=Ext.trans (a:=w2) xq hXC;have hOC2:=hOC.mono (show Ext w2 _ by repeat (first | assumption | exact er _ | (apply And.left;assumption) | apply Ext.drew | apply Ext.alloc));refine hxo hK (by first | exact hkF | exact kS _ xq) (fun hHeld=>?_);clear hK K;refine hxt 12 (h:=fun K hK=>?_);go_simp;exact zz16
          . skip;go_simp;refine hxo hK (by first | exact hkF | exact kS _ xq) (fun hHeld=>?_);clear hK K;refine hxt 10 (h:=fun K hK=>?_);go_simp;(go_at_call 212;(with_reducible refine Calls.mono (Calls.sh (F8 _ _ _ (HXi.out _ xq))) ?_);rintro eC wC ⟨aoC,cC,rfl,hOC,hXC⟩);have hHC:=Ext.trans (a:=w2) xq hXC;have hOC2:=hOC.mono (show Ext w2 _ by repeat (first | assumption | exact er _ | (apply And.left;assumption) | apply Ext.drew | apply Ext.alloc));exact zz16
         case rest =>
          obtain⟨vF,hP5⟩:=hcut;obtain⟨t1,-,t2,t3⟩:=HF.out _ _ _ _ hP5;have cT2:=HT.out _ _ _ (hP5.ext ((er wc).drew));go_wp2_with fail;refine wp_region_held_drew (S:=(fun W=>W.cell? ⟨bT,0,none⟩=some (.func (.func 239) #[] #[.pointer (some ⟨bL,0,none⟩)])∧W.cell? ⟨bA,0,none⟩=some (.slice (some ⟨gA,0,none⟩) A.length cA)∧W.cell? ⟨gA,k,none⟩=some (.slice (some ⟨gy,0,none⟩) a.length cy))) (by kernel_rfl) (by exact⟨t1,t2,t3⟩) (fun hHeld=>?_);refine hxn 0 ?_;refine hxn 1 ?_;refine hxn 2 ?_;refine hxn 3 ?_;refine hxn 4 ?_;refine hxt 5 (h:=fun K hK=>?_);go_simp;(go_at_call 239;(with_reducible refine Calls.mono cT2 ?_);rintro e w4 ⟨⟨b4,rfl⟩,hP4⟩);obtain⟨r1,-,r2,r3⟩:=HF.out _ _ _ _ hP4;refine hxo hK (by exact⟨r1,r2,r3⟩) (fun hHeld=>?_);clear hK K;refine wpAnyH_done (by kernel_rfl) ?_ _;go_wp2_with fail;go_roundw;(case rel=>exact⟨k+1,vF,om,om,zg,hP4⟩);case measure=>(simp[RowKit.intOf];omega)
     . have hltI:¬(k:Int)<(A.length:Int):=(by omega);have hkl:k=A.length:=om;subst hkl;go_wp2_with fail;go_end0;exact⟨rfl,u,by rw[Hend.out];exact hP⟩
end Go.Zz
