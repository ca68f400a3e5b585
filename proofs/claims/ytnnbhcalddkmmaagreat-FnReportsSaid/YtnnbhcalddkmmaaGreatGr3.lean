/- What the functions on groups and counts return: first part. -/
import Derived.Test.YtnnbhcalddkmmaaGreatWo
import Derived.Deep.RegionHeld3
import Derived.Deep.RegionWith
import Derived.Deep.RegionLaw
set_option linter.unusedSimpArgs false
set_option linter.unusedVariables false
set_option linter.unnecessarySimpa false
set_option maxHeartbeats 400000
namespace Go.Zz
open Go.RowKit Go.Proofs
theorem elI:Tryz.prog.underlying 26=some (.slice (Tryz.prog.elem 26)):=by kernel_rfl
theorem szI:∀w,(sizeOf (Tryz.prog.elem 26)).run Tryz.prog w=.ok 1 w:=fun w=>by kernel_rfl
theorem P1(x lo hi:Int)(w:World) :
 Calls Tryz.prog 206 #[.int .i64 x,.int .i64 lo,.int .i64 hi] w fun e w'=>e=.returned (.bool (inB x lo hi))∧w=w':=by
 go_in;go_wp2;all_goals (go_ret;refine⟨?_,rfl⟩;unfold inB;congr 2;simp;omega)
theorem Q8(x lo hi:Int)(w:World) :
 Calls Tryz.prog 164 #[.int .i64 x,.int .i64 lo,.int .i64 hi] w fun e w'=>e=.returned (.bool (inB x lo hi))∧w=w':=by
 go_in;go_wp2;all_goals (go_ret;refine⟨?_,rfl⟩;unfold inB;congr 2;simp;omega)
theorem zz181{P:Prop}(h:P:=by clear hall;subst hkl;rw[List.take_length] at *;go_wp2_with fail;go_ret;exact⟨j5 hend.out.symm,hE0⟩):P:=h
theorem A1(v:Value)(l:List Int)(w:World)(h:c9 w v l) :
 Calls Tryz.prog 94 #[.agg #[v]] w fun e w'=>e=.returned (.bool (j1 l))∧Ext w w':=by
 obtain⟨ao,c,adr,rfl,hlen,hadr,hcell⟩:=h.op;have hix:=j3 (c:=c) elI szI hadr;clear hadr h;have hE0:=(er w).alloc (.cells #[.slice ao l.length c] 28);by_cases h3:l.length<=3
 . go_in;go_wp2_with fail;go_loop [3,13] (fun n i=>∃k:Nat,k<=l.length∧(∀j,j<k->2<=nth l j∧nth l j<=24)∧n=.int .i64 (A0 (l.take k))∧i=.int .i64 k) (fun _ i=>l.length - (intOf i).toNat);(case atStart=>exact⟨0,om,om,rfl,rfl⟩);case round =>
    obtain⟨k,hk,hall,rfl,rfl⟩:=hrel;obtain⟨hb0,hb1⟩:=b07 k l hk om hall;by_cases hlt:k<l.length
    . have hck:=hcell k _ hlt hE0;by_cases hin:2<=nth l k∧nth l k<=24
      . have hin':=Z9.2 hin;obtain⟨hm1,hm2⟩:=bx1 hb0 hb1 hin.1 hin.2;go_wp2_with (first | (go_at_call 206;refine (P1 _ _ _ _).mono ?_;rintro e w' ⟨rfl,rfl⟩));go_round;(case rel=>exact⟨k+1,om,fun j hj=>by by_cases e:j=k;(subst e;exact hin);exact hall j om,by rw[W2 l k hlt],zg⟩);case measure=>exact zm1
      . have hin':=d40.2 hin;go_wp2_with (first | (go_at_call 206;refine (P1 _ _ _ _).mono ?_;rintro e w' ⟨rfl,rfl⟩));go_ret;exact⟨j5 (c31 hlt hin).symm,hE0⟩
    . have hkl:k=l.length:=(by omega);have hend:=zh (cy1 h3 (fun j hj=>hall j om));exact zz181
 . go_in;go_wp2_with fail;go_ret;exact⟨j5 (c30 om).symm,hE0⟩
theorem A3(v:Value)(l:List Int)(w:World)(h:c9 w v l) :
 Calls Tryz.prog 42 #[.agg #[v]] w fun e w'=>e=.returned (.bool (j1 l))∧Ext w w':=by
 obtain⟨ao,c,adr,rfl,hlen,hadr,hcell⟩:=h.op;have hix:=j3 (c:=c) elI szI hadr;clear hadr h;have hE0:=(er w).alloc (.cells #[.slice ao l.length c] 28);go_in;go_wp2_with fail;go_loop [3,4] (fun n i=>∃k:Nat,k<=l.length∧k<=3∧(∀j,j<k->2<=nth l j∧nth l j<=24)∧n=.int .i64 (A0 (l.take k))∧i=.int .i64 k) (fun _ i=>l.length - (intOf i).toNat);case atStart=>exact⟨0,om,om,om,rfl,rfl⟩
 case round =>
  obtain⟨k,hk,hk3,hall,rfl,rfl⟩:=hrel;obtain⟨hb0,hb1⟩:=b07 k l hk hk3 hall;by_cases hlt:k<l.length
  . have hck:=hcell k _ hlt hE0;by_cases hin:2<=nth l k∧nth l k<=24
    . have hin':=Z9.2 hin;obtain⟨hm1,hm2⟩:=bx1 hb0 hb1 hin.1 hin.2;by_cases h3:k<3
      . go_wp2_with (first | (go_at_call 164;refine (Q8 _ _ _ _).mono ?_;rintro e w' ⟨rfl,rfl⟩));go_round;(case rel=>exact⟨k+1,om,om,fun j hj=>by by_cases e:j=k;(subst e;exact hin);exact hall j om,by rw[W2 l k hlt],zg⟩);case measure=>exact zm1
      . go_wp2_with (first | (go_at_call 164;refine (Q8 _ _ _ _).mono ?_;rintro e w' ⟨rfl,rfl⟩));go_ret;exact⟨j5 (c30 om).symm,hE0⟩
    . have hin':=d40.2 hin;go_wp2_with (first | (go_at_call 164;refine (Q8 _ _ _ _).mono ?_;rintro e w' ⟨rfl,rfl⟩));go_ret;exact⟨j5 (c31 hlt hin).symm,hE0⟩
  . have hkl:k=l.length:=(by omega);have hend:=zh (cy1 om (fun j hj=>hall j om));exact zz181
theorem jt9:(Tryz.prog.info? 3).map (fun i=>(i.zero,i.size,i.bytes))=some (some (.int .i64 0),1,8):=by kernel_rfl
theorem slI:IntSl Tryz.prog 26 3:=⟨by kernel_rfl,info_parts jt9⟩
def jh6(k:Int)(n:Nat):List Int:=(List.range n).map (fun i:Nat=>k+(i:Int))
theorem Own.stored_grown{TI:TypeId}{w0 w:World}{g c n:Nat}{l:List Int}(h:Own TI w0 w (.slice (some ⟨g,0,none⟩) n c) l)(hn:l.length=n)(j:Nat)(y:Int) :
 Own TI w0 (w.setCell ⟨g,j,none⟩ (.int .i64 y)) (.slice (some ⟨g,0,none⟩) n c) (l.set j y)∧w.grownBy (w.setCell ⟨g,j,none⟩ (.int .i64 y)) (some g):=by
 subst hn;exact⟨h.stored j y,(World.ownsRow.stored h.1 j (.int .i64 y)).2⟩
def At(W:World)(a:Addr):Value:=(W.cell? a).getD (.int .i64 0)
def Res(W:World)(r n:Nat):Prop:=∀i,i<n->W.cell? ⟨r,i,none⟩=some (At W ⟨r,i,none⟩)∧W.frozen? ⟨r,i,none⟩=false
theorem jh0{W:World}{a:Addr}{v:Value}(h:W.cell? a=some v):At W a=v:=by unfold At;rw[h];rfl
theorem Res.ext{W W':World}{r n:Nat}(h:Res W r n)(hE:Ext W W'):Res W' r n:=fun i hi=>by
 obtain⟨h1,h2⟩:=h i hi
 have h3:=hE.cell h1
 exact⟨by rw[jh0 h3];exact h3,by rw[Below.frozen hE (World.block_lt_of_cell? W _ h1),h2]⟩
theorem Res.drew{W:World}{r n:Nat}(h:Res W r n):Res W.drew r n:=h.ext ((er W).drew)
theorem Res.setCell{W:World}{r n:Nat}(h:Res W r n)(p:Addr)(x:Value):Res (W.setCell p x) r n:=fun i hi=>by
 obtain⟨h1,h2⟩:=h i hi
 obtain⟨v',hv⟩:=cell?_setCell_some (w:=W) (p:=p) (x:=x) h1
 exact⟨by rw[jh0 hv];exact hv,by rw[World.frozen?_setCell,h2]⟩
theorem Blk.new'{w:World}{T:TypeId}{cs:Array Value}{b:Nat}(h:w.heap.size=b):Blk (w.alloc (.cells cs T)) b T cs:=by subst h;exact Blk.new _ _ _
theorem Calls.sh{P:Program}{f:FuncId}{args:Array Value}{TI:TypeId}{w:World}{L:List Int}(h:Calls P f args w fun e w'=>∃v,e=.returned v∧Own TI w w' v L∧Ext w w') :
 Calls P f args w fun e w'=>∃ao c,e=.returned (.slice ao L.length c)∧Own TI w w' (.slice ao L.length c) L∧Ext w w' :=
 h.mono fun e w' ⟨v,he,hO,hE⟩=>by
  obtain⟨ao,c,rfl,-⟩:=hO.shape
  exact⟨ao,c,he,hO,hE⟩
def J3(TI:TypeId)(wb w0 w:World)(v:Value)(l:List Int):Prop :=
 (∃g,wb.heap.size<=g∧v=.slice (some ⟨g,0,none⟩) 0 0∧l=[]∧Blk w g TI #[])∨Own TI w0 w v l
theorem J3.ext{TI:TypeId}{wb w0 w w':World}{v:Value}{l:List Int}(h:J3 TI wb w0 w v l)(hE:Ext w w'):J3 TI wb w0 w' v l:=by
 rcases h with ⟨g,h0,h1,h2,h3⟩ | h
 . exact Or.inl ⟨g,h0,h1,h2,h3.ext hE⟩
 . exact Or.inr (h.ext hE)
theorem J3.own{TI:TypeId}{wb w0 w:World}{v:Value}{l:List Int}(h:J3 TI wb w0 w v l)(hE:Ext wb w0):Own TI wb w v l:=by
 rcases h with ⟨g,h0,rfl,rfl,h3⟩ | h
 . exact⟨⟨zm,Or.inr ⟨g,0,#[],rfl,h0,h3,Nat.le_refl _,Nat.zero_le _,zm,zm⟩⟩,zm⟩
 . exact h.mono hE
theorem J3.start{TI:TypeId}{wb w1 w:World}(w0:World)(hB:Blk w1 wb.heap.size TI #[])(hE:Ext w1 w):J3 TI wb w0 w (.slice (some ⟨wb.heap.size,0,none⟩) 0 0) []:=Or.inl ⟨_,Nat.le_refl _,rfl,rfl,hB.ext hE⟩
section
variable {P:Program} {ops:Array Oper} {rest:List Oper} {o:Oper} {a:Act} {Q:Exit->Act->World->Prop} {T TI:TypeId}
theorem dm3(hT:IntSl P T TI)(hg:o.guard=none)(s x:Operand)(hop:o.op=Op.call { callee:=Callee.builtin Builtin.append,args:=#[s,x],argTypes:=#[T,T] })
 (wb w0 W:World) (v:Value) (l:List Int) (y:Int) (hO:J3 TI wb w0 W v l) (hE:Ext w0 W) (hn:l.length<17592186044416) (hs:a.eval s=v) (hx:a.eval x=.slice (some ⟨W.heap.size,0,none⟩) 1 1)
 (hK:∀v' w',Own TI w0 w' v' (l++[y])->Ext w0 w'->wpList P ops Q rest (a.put o.dst v') w') :
 wpList P ops Q (o :: rest) a (W.alloc (.cells #[.int .i64 y] TI)):=by
 rcases hO with ⟨g,-,rfl,rfl,hB⟩ | hO
 . obtain⟨i,hi,hz,hs1,hby⟩:=hT.info;have hE1:=hE.alloc (.cells #[.int .i64 y] TI);obtain⟨v',w',hrun,r1,r2⟩:=run_append_arg_grows (P:=P) (w:=W.alloc (.cells #[.int .i64 y] TI)) T o.type TI i (.int .i64 0) 1 8 hT.und hi hz hs1 hby rfl om ⟨g,0,none⟩ 0 0 [] zm zm ⟨W.heap.size,0,none⟩ 1 1 [.int .i64 y] rfl (cell_one_new _ _ _) om (by unfold maxLen;omega) om;refine wpList_plain hg fun K hK'=>?_;unfold Oper.wp;simp[execOp,hop,resolve,invoke,builtin,hs,hx,hrun,Result.andThen];have hO':Own TI (W.alloc (.cells #[.int .i64 y] TI)) w' v' [y]:=⟨by simpa using r1,zm⟩;exact hK' _ _ (hK _ _ (by simpa using hO'.mono hE1) (hE1.grown r2 zm))
 . exact A6 hT hg s x hop w0 W v l y hO hE hn hs hx hK
end
theorem zz117{P:Prop}(h:P:=by have hin:=E3 Hgr.out hlt;obtain⟨hm1,hm2⟩:=bx1 hb0 hb1 hin.1 hin.2;go_wp2_with fail;go_round;(case rel=>exact⟨k+1,om,by rw[W2 l k hlt],zg⟩);case measure=>exact zm1):P:=h
theorem T8(v:Value)(l:List Int)(w:World)(h:c9 w v l) :
 Calls Tryz.prog 99 #[.agg #[v]] w fun e w'=>e=.returned (.int .i64 (b40 l))∧Ext w w':=by
 have hI:=h;obtain⟨ao,c,adr,rfl,hlen,hadr,hcell⟩:=h.op;have hix:=j3 (c:=c) elI szI hadr;clear hadr;have hE0:=(er w).alloc (.cells #[(.slice ao l.length c)] 28);have hE:=er (w.alloc (.cells #[(.slice ao l.length c)] 28));have hb:=j0 w (.slice ao l.length c) 28;have hg:∀W,Ext (w.alloc (.cells #[(.slice ao l.length c)] 28)) W->c9 W (.slice ao l.length c) l:=fun W hW=>h.ext (hE0.trans hW);clear h;cases hgr:j1 l
 . have Hgr:=zh hgr;go_in;go_wp2_with (first | (go_at_call 94;refine cx (A1 _ _ _ (hg _ hE)) hE ?_;clear hE;intro w' hE));go_ret;exact⟨o7 (cn3 Hgr.out).symm,hE0.trans hE⟩
 . have Hgr:=zh hgr;go_in;go_wp2_with (first | (go_at_call 94;refine cx (A1 _ _ _ (hg _ hE)) hE ?_;clear hE;intro w' hE));clear hgr;have h3:=C6 Hgr.out;have hck:∀i,i<l.length->World.cell? _ (adr i)=_:=fun i hi=>hcell i _ hi (hE0.trans hE);go_loop [3,12] (fun n i=>∃k:Nat,k<=l.length∧n=.int .i64 (A0 (l.take k))∧i=.int .i64 k) (fun _ i=>l.length - (intOf i).toNat);(case atStart=>exact⟨0,om,rfl,rfl⟩);case round =>
    obtain⟨k,hk,rfl,rfl⟩:=hrel;obtain⟨hb0,hb1⟩:=b07 k l hk om (fun j hj=>E3 Hgr.out om)
    by_cases hlt:k<l.length
    . exact zz117
    . have hkl:k=l.length:=(by omega);subst hkl;rw[List.take_length] at *;go_wp2_with fail;go_ret;exact⟨o7 (by unfold b40;rw[if_pos Hgr.out]),hE0.trans hE⟩
theorem o5(v:Value)(l:List Int)(w:World)(h:c9 w v l)(Hgr:Hid (j1 l=true)) :
 Calls Tryz.prog 43 #[.agg #[v]] w fun e w'=>e=.returned (.int .i64 (ord l:Int))∧Ext w w':=by
 obtain⟨ao,c,adr,rfl,hlen,hadr,hcell⟩:=h.op;have hix:=j3 (c:=c) elI szI hadr;clear hadr h;have hE0:=(er w).alloc (.cells #[.slice ao l.length c] 28);have h3:=C6 Hgr.out;go_in;go_wp2_with fail;go_loop [3,4] (fun n i=>∃k:Nat,k<=l.length∧n=.int .i64 (A0 (l.take k))∧i=.int .i64 k) (fun _ i=>l.length - (intOf i).toNat);case atStart=>exact⟨0,om,rfl,rfl⟩
 case round =>
  obtain⟨k,hk,rfl,rfl⟩:=hrel;obtain⟨hb0,hb1⟩:=b07 k l hk om (fun j hj=>E3 Hgr.out om)
  by_cases hlt:k<l.length
  . have hck:=hcell k _ hlt hE0;exact zz117
  . have hkl:k=l.length:=(by omega);subst hkl;rw[List.take_length] at *;go_wp2_with fail;go_ret;exact⟨o7 (bc4 Hgr.out).symm,hE0⟩
theorem I6(v:Value)(l:List Int)(a:Int)(w:World)(h:c9 w v l) :
 Calls Tryz.prog 105 #[.agg #[v],.int .i64 a] w fun e w'=>e=.returned (.bool (j4 l a))∧Ext w w':=by
 have hE0:=(er w).alloc (.cells #[v] 28);have hE:=er (w.alloc (.cells #[v] 28));have hb:=j0 w v 28;have hg:∀W,Ext (w.alloc (.cells #[v] 28)) W->c9 W v l:=fun W hW=>h.ext (hE0.trans hW);clear h;cases hgr:j1 l
 . have Hgr:=zh hgr;go_in;go_wp2_with (first | (go_at_call 94;refine cx (A1 _ _ _ (hg _ hE)) hE ?_;clear hE;intro w' hE));go_ret;exact⟨j5 (by unfold j4;rw[Hgr.out];rfl),hE0.trans hE⟩
 . have Hgr:=zh hgr;have hord:=ba2 hgr;have hsh:=p6 (n:=ord l) (by have:=m8 hgr;omega);by_cases h0:0<=a
   . go_in;go_wp2_with (first | (go_at_call 94;refine cx (A1 _ _ _ (hg _ hE)) hE ?_;clear hE;intro w' hE) | (go_at_call 99;refine cx (T8 _ _ _ (hg _ hE)) hE ?_;clear hE;intro w' hE));go_ret;exact⟨j5 (by have:=j46 (ord l);unfold j4;rw[Hgr.out,Bool.eq_iff_iff];simp;omega),hE0.trans hE⟩
   . go_in;go_wp2_with (first | (go_at_call 94;refine cx (A1 _ _ _ (hg _ hE)) hE ?_;clear hE;intro w' hE) | (go_at_call 99;refine cx (T8 _ _ _ (hg _ hE)) hE ?_;clear hE;intro w' hE));go_ret;exact⟨j5 (by unfold j4;rw[Hgr.out];simp;omega),hE0.trans hE⟩
theorem R1(v:Value)(l:List Int)(a:Int)(w:World)(h:c9 w v l) :
 Calls Tryz.prog 46 #[.agg #[v],.int .i64 a] w fun e w'=>e=.returned (.bool (j4 l a))∧Ext w w':=by
 have hE0:=(er w).alloc (.cells #[v] 28);have hE:=er (w.alloc (.cells #[v] 28));have hb:=j0 w v 28;have hg:∀W,Ext (w.alloc (.cells #[v] 28)) W->c9 W v l:=fun W hW=>h.ext (hE0.trans hW);clear h;cases hgr:j1 l
 . have Hgr:=zh hgr;go_in;go_wp2_with (first | (go_at_call 42;refine cx (A3 _ _ _ (hg _ hE)) hE ?_;clear hE;intro w' hE));go_ret;exact⟨j5 (by unfold j4;rw[Hgr.out];rfl),hE0.trans hE⟩
 . have Hgr:=zh hgr;have hsh:=p6 (n:=ord l) (by have:=m8 hgr;omega);have hp1:=T3 (ord l);have hp2:=b51 (m8 hgr).2;go_in;go_wp2_with (first | (go_at_call 42;refine cx (A3 _ _ _ (hg _ hE)) hE ?_;clear hE;intro w' hE) | (go_at_call 43;refine cx (o5 _ _ _ (hg _ hE) (Hgr)) hE ?_;clear hE;intro w' hE) | (go_at_call 164;refine (Q8 _ _ _ _).mono ?_;rintro e w' ⟨rfl,rfl⟩));go_ret;exact⟨j5 (by have:=j46 (ord l);unfold j4 inB;rw[Hgr.out,Bool.eq_iff_iff];simp;omega),hE0.trans hE⟩
theorem A9(a:Nat)(ha:a<2 ^ 24)(w:World) :
 Calls Tryz.prog 107 #[.int .i64 a] w fun e w'=>e=.returned (.int .i64 (cnt a:Int))∧w=w':=by
 have hc:=r9 a;go_in;go_wp2_with fail;go_loop [0,3] (fun x n=>∃b m:Nat,b<2 ^ 24∧m+cnt b=cnt a∧x=.int .i64 b∧n=.int .i64 m) (fun x _=>(intOf x).toNat);case atStart=>exact⟨a,0,ha,om,rfl,rfl⟩
 case round =>
  obtain⟨b,m,hb,hm,rfl,rfl⟩:=hrel;have Hm:=zh hm;have hm':m<=24:=om;clear hm;by_cases h0:b=0
  . subst h0;go_wp2_with fail;go_ret;exact⟨o7 (by have:=Hm.out;rw[W7] at this;omega),rfl⟩
  . have hne:((b:Int) != 0)=true:=(by simp;omega);have hb2:b<16777216:=hb;have e1:(b:Int) - 1=((b - 1:Nat):Int):=om;have hand:W1 (b:Int) ((b:Int) - 1)=((b &&& (b - 1):Nat):Int):=(by rw[e1];exact b34 om om);clear e1;go_wp2_with fail;go_round;(case rel=>exact⟨b &&& (b - 1),m+1,Nat.and_lt_two_pow _ om,by have:=d71 (by omega:0<b) hb;have:=Hm.out;omega,rfl,zg⟩);case measure=>(simp[intOf];have:=Nat.and_le_right (n:=b) (m:=b - 1);omega)
theorem q8(a:Nat)(ha:a<2 ^ 24)(w:World) :
 Calls Tryz.prog 66 #[.int .i64 a] w fun e w'=>e=.returned (.int .i64 (cnt a:Int))∧w=w':=by
 have hc:=r9 a;go_in;go_wp2_with fail;go_loop [3,4] (fun n x=>∃b m:Nat,b<2 ^ 24∧m+cnt b=cnt a∧x=.int .i64 b∧n=.int .i64 m) (fun _ x=>(intOf x).toNat);case atStart=>exact⟨a,0,ha,om,rfl,rfl⟩
 case round =>
  obtain⟨b,m,hb,hm,rfl,rfl⟩:=hrel;have Hm:=zh hm;have hm':m<=24:=om;clear hm;by_cases h0:b=0
  . subst h0;go_wp2_with fail;go_ret;exact⟨o7 (by have:=Hm.out;rw[W7] at this;omega),rfl⟩
  . have hpos:0<(b:Int):=(by omega);have hb2:b<16777216:=hb;have hand:W1 (b:Int) 1=((b % 2:Nat):Int):=Q6 om;have hshr:bp2 (b:Int) 1=((shr b 1:Nat):Int):=K0 (a:=b) (n:=1) om;have hmod:b % 2<=1:=om;go_wp2_with fail;go_round;(case rel=>exact⟨b / 2,m+b % 2,om,by have:=d72 b hb;have:=Hm.out;omega,by rw[dr8],zg⟩);case measure=>(simp[intOf,dr8];omega)
theorem zz131{P:Prop}(h:P:=by have he:=zh (U0 hk (bx9.1 h0));have h0':((shr a k:Nat):Int)=0:=(by rw[h0];rfl);clear h0;go_wp2_with fail;go_ret;exact⟨_,rfl,by rw[<-he.out];exact hO,hE⟩):P:=h
theorem I5(a:Nat)(ha:a<2 ^ 24)(w:World) :
 Calls Tryz.prog 214 #[.int .i64 a] w fun e w'=>∃v,e=.returned v∧Own 3 w w' v (b9 (j7 a))∧Ext w w':=by
 have hO0:=m7 (TI:=3) (n:=0) om (er w) [] rfl;have hE0:=(er w).alloc (.cells #[] 3);go_in;go_wp2_with fail;go_loopw [3,4] (fun v x wr=>∃k:Nat,k<=24∧x=.int .i64 k∧Own 3 w wr v (b9 (B8 a k))∧Ext w wr) (fun _ x _=>24 - (intOf x).toNat);case atStart=>exact⟨0,om,rfl,hO0,hE0⟩
 case round =>
  obtain⟨k,hk,rfl,hO,hE⟩:=hrel;have hsh:=K0 (a:=a) (n:=k) om;by_cases h0:shr a k=0
  . exact zz131
  . have hlt:=cu2 h0 ha;have hne:=cz4 h0;have hbt:=X8 (a:=a) (n:=k) om om;have hs:=zh (E2 a k);have hln:(b9 (B8 a k)).length<=24:=(by rw[j2];have:=bd7 a k;omega);clear h0;cases hb:a.testBit k
    . rw[hb] at hbt;have Hb:=zh hb;clear hb;go_wp2_with fail;go_roundw;(case rel=>exact⟨k+1,om,zg,by rw[hs.out,Hb.out];simpa using hO,hE⟩);case measure=>exact zm1
    . rw[hb] at hbt;have Hb:=zh hb;clear hb;go_wp2_with (at_builtin;refine A6 slI rfl _ _ rfl w _ _ _ _ hO hE om rfl rfl ?_;intro v1 w1 hO1 hE1);go_roundw;(case rel=>exact⟨k+1,om,zg,by rw[hs.out,Hb.out];simpa[D5] using hO1,hE1⟩);case measure=>exact zm1
theorem M6(a:Nat)(ha:a<2 ^ 24)(w:World) :
 Calls Tryz.prog 165 #[.int .i64 a] w fun e w'=>∃v,e=.returned v∧Own 3 w w' v (b9 (j7 a))∧Ext w w':=by
 have hO0:=m7 (TI:=3) (n:=0) om (er w) [] rfl;have hE0:=(er w).alloc (.cells #[] 3);go_in;go_wp2_with fail;go_loopw [3,4,5] (fun v i x wr=>∃k:Nat,k<=24∧i=.int .i64 k∧x=.int .i64 ((shr a k:Nat):Int)∧Own 3 w wr v (b9 (B8 a k))∧Ext w wr) (fun _ i _ _=>24 - (intOf i).toNat);case atStart=>exact⟨0,om,rfl,rfl,hO0,hE0⟩
 case round =>
  obtain⟨k,hk,rfl,rfl,hO,hE⟩:=hrel;by_cases h0:shr a k=0
  . exact zz131
  . have hlt:=cu2 h0 ha;have hpos:0<((shr a k:Nat):Int):=om;have hbt:=X8 (a:=a) (n:=k) om om;have hsh:bp2 ((shr a k:Nat):Int) 1=((shr a (k+1):Nat):Int):=(by rw[<-jn6];exact K0 (n:=1) om);have hs:=zh (E2 a k);have hln:(b9 (B8 a k)).length<=24:=(by rw[j2];have:=bd7 a k;omega);clear h0;cases hb:a.testBit k
    . rw[hb] at hbt;have Hb:=zh hb;clear hb;go_wp2_with fail;go_roundw;(case rel=>exact⟨k+1,om,zg,rfl,by rw[hs.out,Hb.out];simpa using hO,hE⟩);case measure=>exact zm1
    . rw[hb] at hbt;have Hb:=zh hb;clear hb;go_wp2_with (at_builtin;refine A6 slI rfl _ _ rfl w _ _ _ _ hO hE om rfl rfl ?_;intro v1 w1 hO1 hE1);go_roundw;(case rel=>exact⟨k+1,om,zg,rfl,by rw[hs.out,Hb.out];simpa[D5] using hO1,hE1⟩);case measure=>exact zm1
theorem c69{s u t A:Nat}(h:s+u*t=A)(hA:A<24):s<24:=om
theorem c95(n:Nat)(h:n<=9223372036854775807):wrap64 (n:Int)=(n:Int):=IntWalk.wrap64_in _ om
theorem bg7{x q:Nat}(hx:x<=16777216):Value.int .i64 (wrap64 ((x:Int) / (q:Int)))=.int .i64 ((x / q:Nat):Int):=by
 have h:=Nat.div_le_self x q;rw[show ((x:Int) / (q:Int))=((x / q:Nat):Int) from (Int.natCast_ediv x q).symm];generalize x / q=d at h ⊢;rw[c95 d om]
theorem c90(u q:Nat):Value.int .i64 ((u:Int)*(q:Int))=.int .i64 ((u*q:Nat):Int):=by rw[Int.natCast_mul]
theorem dg6{x y q s u:Nat}(hs:s<24)(h0:0<=((x:Int) % (q:Int)+(y:Int) % (q:Int)) % (q:Int)*(u:Int))(h1:((x:Int) % (q:Int)+(y:Int) % (q:Int)) % (q:Int)*(u:Int)<=331776) :
 Value.int .i64 (wrap64 ((s:Int)+wrap64 (((x:Int)+(y:Int)) % (q:Int)*(u:Int))))=.int .i64 ((s+((x % q+y % q) % q)*u:Nat):Int):=by
 have c2:((((x % q+y % q) % q)*u:Nat):Int)=((x:Int) % (q:Int)+(y:Int) % (q:Int)) % (q:Int)*(u:Int):=by
  rw[Int.natCast_mul,Int.natCast_emod,Int.natCast_add,Int.natCast_emod,Int.natCast_emod]
 rw[<-c2] at h0 h1;rw[show ((x:Int)+(y:Int)) % (q:Int)*(u:Int)=((((x % q+y % q) % q)*u:Nat):Int) from by rw[c2,Int.add_emod]];generalize ((x % q+y % q) % q)*u=d at h0 h1 ⊢;rw[c95 d om,<-Int.natCast_add,c95 (s+d) om]
theorem bu0{s u d q t A:Nat}(h:s+u*(d+q*t)=A):(s+d*u)+(u*q)*t=A:=by
 rw[Nat.mul_add,<-Nat.mul_assoc,Nat.mul_comm u d] at h;omega
theorem zz125{P:Prop}(h:P:=by have hkl:k=l.length:=(by omega);subst hkl;go_wp2_with fail;go_ret;exact⟨o7 (by have:=Hs.out;rw[List.drop_length] at this;simp[m6] at this;omega),hE0.trans hE⟩):P:=h
theorem zz133{P:Prop}(h:P:=by rw[<-Hu2.out,<-Hu.out,Hq.out];push_cast;rw[Int.mul_comm]):P:=h
theorem zz190{P:Prop}(h:P:=by apply bu0;rw[<-Hst.out];exact Hs.out):P:=h
theorem zz191{P:Prop}(h:P:=by exact bg7 (nle hx' (Nat.le_of_lt hx))):P:=h
theorem R5(v:Value)(l:List Int)(x y:Nat)(w:World)(h:c9 w v l)(Hgr:Hid (j1 l=true))(hx:x<16777216)(hy:y<16777216) :
 Calls Tryz.prog 224 #[.agg #[v],.int .i64 x,.int .i64 y] w fun e w'=>e=.returned (.int .i64 (m6 l x y))∧Ext w w':=by
 obtain⟨ao,c,adr,rfl,hlen,hadr,hcell⟩:=h.op;have hix:=j3 (c:=c) elI szI hadr;clear hadr h;obtain⟨wb,hwb⟩:=nq (w.alloc (.cells #[.slice ao l.length c] 28));have hE0:=(er w).alloc (.cells #[.slice ao l.length c] 28);rw[<-hwb] at hE0;have hE:=er wb;have Hwb:=zh hwb;have hA:=X7 Hgr.out x y;have h3:=C6 Hgr.out;clear hwb;go_in;go_wp2_with fail;rw[<-Hwb.out];go_loopw [1,2,7,8,14] (fun xv yv sv uv i wr=>∃k x' y' s u:Nat,k<=l.length∧x'<=x∧y'<=y∧s+u*m6 (l.drop k) x' y'=m6 l x y∧(u:Int)=A0 (l.take k)∧xv=.int .i64 x'∧yv=.int .i64 y'∧sv=.int .i64 s∧uv=.int .i64 u∧i=.int .i64 k∧Ext wb wr) (fun _ _ _ _ i _=>l.length - (intOf i).toNat);case atStart=>exact⟨0,x,y,0,1,om,om,om,zm,by simp[A0],rfl,rfl,rfl,rfl,rfl,hE⟩
 case round =>
  clear hE;obtain⟨k,x',y',s,u,hk,hx',hy',hs,hu,rfl,rfl,rfl,rfl,rfl,hE⟩:=hrel;have hsb:=c69 hs hA;obtain⟨hu1,hu2⟩:=b07 k l hk om (fun j hj=>E3 Hgr.out om)
  rw[<-hu] at hu1 hu2;have Hs:=zh hs;have Hu:=zh hu;clear hs hu hA;by_cases hlt:k<l.length
  . have hck:=hcell k _ hlt (hE0.trans hE);obtain⟨hq1,hq2⟩:=E3 Hgr.out hlt;obtain⟨q,hq⟩:=Int.eq_ofNat_of_zero_le (show 0<=nth l k by omega);have Hst:=zh (cv2 hlt hq x' y');have hu':nth l k*A0 (l.take k)=A0 (l.take (k+1)):=(by rw[W2 l k hlt,Int.mul_comm]);have Hu2:=zh hu';rw[hq] at hq1 hq2;have Hq:=zh hq;have hd:(x' % q+y' % q) % q<24:=nlt (Nat.mod_lt _ om) om;have hm1:((x' % q+y' % q) % q)*u<=24*13824:=Nat.mul_le_mul om om;have hm2:u*q<=13824*24:=Nat.mul_le_mul om om;have c1:((x' % q+y' % q:Nat):Int)=(x':Int) % (q:Int)+(y':Int) % (q:Int):=zm;have c2:((((x' % q+y' % q) % q)*u:Nat):Int)=((x':Int) % (q:Int)+(y':Int) % (q:Int)) % (q:Int)*(u:Int):=(by rw[Int.natCast_mul,Int.natCast_emod,c1]);have c3:((u*q:Nat):Int)=(u:Int)*(q:Int):=Int.natCast_mul _ _;have b1:(x':Int) % (q:Int)<24:=(by have:=Int.emod_lt_of_pos (x':Int) (show (0:Int)<q by omega);omega);have b2:(y':Int) % (q:Int)<24:=(by have:=Int.emod_lt_of_pos (y':Int) (show (0:Int)<q by omega);omega);have b3:0<=(x':Int) % (q:Int):=Int.emod_nonneg _ om;have b4:0<=(y':Int) % (q:Int):=Int.emod_nonneg _ om;have b5:((x':Int) % (q:Int)+(y':Int) % (q:Int)) % (q:Int)*(u:Int)<=331776:=(by rw[<-c2];omega);have b6:0<=((x':Int) % (q:Int)+(y':Int) % (q:Int)) % (q:Int)*(u:Int):=(by rw[<-c2];omega);have b7:(u:Int)*(q:Int)<=331776:=(by rw[<-c3];omega);have b8:0<=(u:Int)*(q:Int):=(by rw[<-c3];omega);have C2:=zh c2;have C3:=zh c3;clear c1 c2 c3 hd hm1 hm2 hu';go_wp2_with fail;(refine wl hE ?_);(repeat (go_big_quiet_step (first | fail)));(refine zd ?_);(clear hE);(intro W hE);go_wp2_with fail;(refine wl hE ?_);(repeat (go_big_quiet_step (first | fail)));(refine zd ?_);(clear hE);(intro W hE);go_wp2_with fail;go_roundw;case rel =>
     refine⟨k+1,x' / q,y' / q,s+((x' % q+y' % q) % q)*u,u*q,om,nle (Nat.div_le_self _ _) hx',nle (Nat.div_le_self _ _) hy',?_,?_,?_,?_,?_,?_,zg,hE⟩
     . exact zz190
     . exact zz133
     . exact zz191
     . exact bg7 (nle hy' (Nat.le_of_lt hy))
     . exact dg6 hsb b6 b5
     . exact c90 u q
    case measure=>exact zm1
  . exact zz125
theorem G5(v:Value)(l:List Int)(x y:Nat)(w:World)(h:c9 w v l)(Hgr:Hid (j1 l=true))(hx:x<16777216)(hy:y<16777216) :
 Calls Tryz.prog 190 #[.agg #[v],.int .i64 x,.int .i64 y] w fun e w'=>e=.returned (.int .i64 (m6 l x y))∧Ext w w':=by
 obtain⟨ao,c,adr,rfl,hlen,hadr,hcell⟩:=h.op;have hix:=j3 (c:=c) elI szI hadr;clear hadr h;obtain⟨wb,hwb⟩:=nq (w.alloc (.cells #[.slice ao l.length c] 28));have hE0:=(er w).alloc (.cells #[.slice ao l.length c] 28);have hb:=j0 w (.slice ao l.length c) 28;rw[<-hwb] at hE0 hb;have hE:=er wb;have Hwb:=zh hwb;have hA:=X7 Hgr.out x y;have h3:=C6 Hgr.out;clear hwb;go_in;go_wp2_with fail;rw[<-Hwb.out];go_loopw [1,2,7,8,9] (fun xv yv sv uv i wr=>∃k x' y' s u:Nat,k<=l.length∧x'<=x∧y'<=y∧s+u*m6 (l.drop k) x' y'=m6 l x y∧(u:Int)=A0 (l.take k)∧xv=.int .i64 x'∧yv=.int .i64 y'∧sv=.int .i64 s∧uv=.int .i64 u∧i=.int .i64 k∧Ext wb wr) (fun _ _ _ _ i _=>l.length - (intOf i).toNat);case atStart=>exact⟨0,x,y,0,1,om,om,om,zm,by simp[A0],rfl,rfl,rfl,rfl,rfl,hE⟩
 case round =>
  clear hE;obtain⟨k,x',y',s,u,hk,hx',hy',hs,hu,rfl,rfl,rfl,rfl,rfl,hE⟩:=hrel;have hsb:=c69 hs hA;have hbx:=hb wr hE;obtain⟨hu1,hu2⟩:=b07 k l hk om (fun j hj=>E3 Hgr.out om)
  rw[<-hu] at hu1 hu2;have Hs:=zh hs;have Hu:=zh hu;clear hs hu hA;by_cases hlt:k<l.length
  . have hck:=hcell k _ hlt (hE0.trans hE);obtain⟨hq1,hq2⟩:=E3 Hgr.out hlt;obtain⟨q,hq⟩:=Int.eq_ofNat_of_zero_le (show 0<=nth l k by omega);have Hst:=zh (cv2 hlt hq x' y');have hu':nth l k*A0 (l.take k)=A0 (l.take (k+1)):=(by rw[W2 l k hlt,Int.mul_comm]);have Hu2:=zh hu';rw[hq] at hq1 hq2;have Hq:=zh hq;have hd:(x' % q+y' % q) % q<24:=nlt (Nat.mod_lt _ om) om;have hm1:((x' % q+y' % q) % q)*u<=24*13824:=Nat.mul_le_mul om om;have hm2:u*q<=13824*24:=Nat.mul_le_mul om om;have c1:((x' % q+y' % q:Nat):Int)=(x':Int) % (q:Int)+(y':Int) % (q:Int):=zm;have c2:((((x' % q+y' % q) % q)*u:Nat):Int)=((x':Int) % (q:Int)+(y':Int) % (q:Int)) % (q:Int)*(u:Int):=(by rw[Int.natCast_mul,Int.natCast_emod,c1]);have c3:((u*q:Nat):Int)=(u:Int)*(q:Int):=Int.natCast_mul _ _;have b1:(x':Int) % (q:Int)<24:=(by have:=Int.emod_lt_of_pos (x':Int) (show (0:Int)<q by omega);omega);have b2:(y':Int) % (q:Int)<24:=(by have:=Int.emod_lt_of_pos (y':Int) (show (0:Int)<q by omega);omega);have b3:0<=(x':Int) % (q:Int):=Int.emod_nonneg _ om;have b4:0<=(y':Int) % (q:Int):=Int.emod_nonneg _ om;have b5:((x':Int) % (q:Int)+(y':Int) % (q:Int)) % (q:Int)*(u:Int)<=331776:=(by rw[<-c2];omega);have b6:0<=((x':Int) % (q:Int)+(y':Int) % (q:Int)) % (q:Int)*(u:Int):=(by rw[<-c2];omega);have b7:(u:Int)*(q:Int)<=331776:=(by rw[<-c3];omega);have b8:0<=(u:Int)*(q:Int):=(by rw[<-c3];omega);have C2:=zh c2;have C3:=zh c3;clear c1 c2 c3 hd hm1 hm2 hu';go_wp2_with fail;(refine wl hE ?_);(repeat (go_big_quiet_step (first | fail)));(refine zd ?_);(clear hE);(intro W hE);go_wp2_with fail;go_roundw;case rel =>
     refine⟨k+1,x' / q,y' / q,s+((x' % q+y' % q) % q)*u,u*q,om,nle (Nat.div_le_self _ _) hx',nle (Nat.div_le_self _ _) hy',?_,?_,?_,?_,?_,?_,zg,hE⟩
     . exact zz190
     . exact zz133
     . exact zz191
     . exact bg7 (nle hy' (Nat.le_of_lt hy))
     . exact dg6 hsb b6 b5
     . exact c90 u q
    case measure=>exact zm1
  . exact zz125
theorem c9.nats{w:World}{v:Value}{L:List Nat}(h:c9 w v (b9 L)) :
 ∃(ao:Option Addr) (c:Nat) (adr:Nat->Addr),v=.slice ao L.length c ∧
  (∀i,i<L.length->ao=some (adr 0)∧adr i=(adr 0).add i) ∧
  (∀i W,i<L.length->Ext w W->W.cell? (adr i)=some (.int .i64 (d8 L i:Int))):=by
 obtain⟨ao,c,adr,rfl,_,h2,h3⟩:=h.op
 rw[j2] at h2 h3
 exact⟨ao,c,adr,by rw[j2],h2,fun i W hi hW=>by rw[h3 i W hi hW,H8]⟩
def b04(l:List Int)(L:List Nat)(x:Nat):Nat:=U6 (L.map (fun y=>m6 l x y))
theorem cc8(l:List Int)(L:List Nat)(y x:Nat):b04 l (L++[y]) x=b04 l L x ||| 2 ^ m6 l x y:=by
 unfold b04;rw[List.map_append];exact bl4 _ _
theorem dx2(l:List Int)(a x:Nat):b04 l (j7 a) x=j6 l a x:=rfl
theorem d02{l:List Int}(h:j1 l=true)(L:List Nat)(x:Nat):b04 l L x<2 ^ 24:=by
 refine b43 fun y hy=>?_;obtain⟨z,_,rfl⟩:=List.mem_map.1 hy;exact X7 h _ _
theorem dl6(l:List Int)(a k x:Nat)(hb:a.testBit k=true):b04 l (B8 a (k+1)) x=b04 l (B8 a k) x ||| 2 ^ m6 l x k:=by
 rw[E2,hb,if_pos rfl,cc8]
theorem dl7(l:List Int)(a k x:Nat)(hb:a.testBit k=false):b04 l (B8 a (k+1)) x=b04 l (B8 a k) x:=by
 rw[E2,hb];simp
theorem H9(v:Value)(l:List Int)(a x:Nat)(w:World)(h:c9 w v l)(Hgr:Hid (j1 l=true))(ha:a<2 ^ 24)(hx:x<24) :
 Calls Tryz.prog 220 #[.agg #[v],.int .i64 a,.int .i64 x] w fun e w'=>e=.returned (.int .i64 (j6 l a x))∧Ext w w':=by
 obtain⟨wb,Hwb,hE0,hb,hg,hE,-⟩:=ju3 28 h;clear h;go_in;go_wp2_with fail;rw[<-Hwb.out];go_loopw [7,8] (fun ov yv wr=>∃k:Nat,k<=24∧yv=.int .i64 k∧ov=.int .i64 ((b04 l (B8 a k) x:Nat):Int)∧Ext wb wr) (fun _ y _=>24 - (intOf y).toNat);case atStart=>exact⟨0,om,rfl,by simp[b04,B8,U6],hE⟩
 case round =>
  clear hE;obtain⟨k,hk,rfl,rfl,hE⟩:=hrel;have hbx:=hb wr hE;have hsh:=K0 (a:=a) (n:=k) om;by_cases h0:shr a k=0
  . have he:=zh (U0 hk (bx9.1 h0));have h0':((shr a k:Nat):Int)=0:=(by rw[h0];rfl);clear h0;go_wp2_with fail;go_ret;exact⟨o7 (by rw[he.out];rfl),hE0.trans hE⟩
  . have hlt:=cu2 h0 ha;have hne:=cz4 h0;have hbt:=X8 (a:=a) (n:=k) om om;clear h0;cases hb:a.testBit k
    . rw[hb] at hbt;have Hb:=zh (dl7 l a k x hb);clear hb;go_wp2_with fail;go_roundw;(case rel=>exact⟨k+1,om,zg,by rw[Hb.out],hE⟩);case measure=>exact zm1
    . rw[hb] at hbt;have Hb:=zh (dl6 l a k x hb);have hz:=X7 Hgr.out x k;have hs1:=p6 (n:=m6 l x k) om;have hs2:=F6 (d02 Hgr.out (B8 a k) x) hz;clear hb;go_wp2_with (first | (go_at_call 224;refine cx (R5 _ _ _ _ _ (hg _ hE) (Hgr) (om) (om)) hE ?_;clear hE;intro w' hE));go_roundw;(case rel=>exact⟨k+1,om,zg,by rw[Hb.out],hE⟩);case measure=>exact zm1
theorem zz48{P:Prop}(h:P:=by have hkl:k=L.length:=(by omega);subst hkl;go_wp2_with fail;go_ret;exact⟨o7 (by rw[List.take_length,Hd.out]),hE0.trans (hE1.trans hE)⟩):P:=h
theorem F5(v:Value)(l:List Int)(a x:Nat)(w:World)(h:c9 w v l)(Hgr:Hid (j1 l=true))(ha:a<2 ^ 24)(hx:x<24) :
 Calls Tryz.prog 166 #[.agg #[v],.int .i64 a,.int .i64 x] w fun e w'=>e=.returned (.int .i64 (j6 l a x))∧Ext w w':=by
 obtain⟨wb,hwb⟩:=nq (w.alloc (.cells #[v] 28));have hE0:=(er w).alloc (.cells #[v] 28);have hb:=j0 w v 28;rw[<-hwb] at hE0 hb;have hg:∀W,Ext wb W->c9 W v l:=fun W hW=>h.ext (hE0.trans hW);have Hwb:=zh hwb;clear hwb h;go_in;go_wp2_with fail;rw[<-Hwb.out];go_wp2_with (first | (go_at_call 165;refine (M6 _ (ha) _).mono ?_;rintro e w1 ⟨v1,rfl,hL,hE1⟩;obtain⟨aoL,cL,adrL,rfl,hadrL,hcellL⟩:=hL.ints.nats;have hixL:=j3 (c:=cL) elI szI hadrL;clear hadrL));have hb1:∀W,Ext w1 W->W.cell? ⟨w.heap.size,0,none⟩=some v:=fun W hW=>hb W (hE1.trans hW);have hg1:∀W,Ext w1 W->c9 W v l:=fun W hW=>hg W (hE1.trans hW);have hE:=er w1;clear hb hg hL;have hall:∀y∈j7 a,y<24:=fun y hy=>I9 hy;have hlen:=B7 a;have Hd:=zh (dx2 l a x);generalize j7 a=L at hcellL hixL hall hlen Hd ⊢;go_loopw [7,9] (fun ov i wr=>∃k:Nat,k<=L.length∧i=.int .i64 k∧ov=.int .i64 ((b04 l (L.take k) x:Nat):Int)∧Ext w1 wr) (fun _ i _=>L.length - (intOf i).toNat);case atStart=>exact⟨0,om,rfl,by simp[b04,U6],hE⟩
 case round =>
  clear hE;obtain⟨k,hk,rfl,rfl,hE⟩:=hrel;by_cases hlt:k<L.length
  . have hck:=fun U=>hcellL k _ hlt (d5 w1 U);have hbx:=fun U=>hb1 _ (d5 w1 U);have hby:=hall _ (o6 hlt);have Ht:=zh (cc8 l (L.take k) (d8 L k) x);have Ht2:=zh (I8 L k hlt);have hz:=X7 Hgr.out x (d8 L k);have hcm:=zh (D4 l (d8 L k) x);have hs1:=p6 (n:=m6 l (d8 L k) x) (by rw[hcm.out];omega);have hs2:=F6 (d02 Hgr.out (L.take k) x) (show m6 l (d8 L k) x<24 by rw[hcm.out];omega);go_wp2_with fail;(refine wl hE ?_);(repeat (go_big_quiet_step (first | (go_at_call 190;exact Calls.lat (G5 _ _ _ _ _ (hg1 _ (d5 w1 _)) (Hgr) (om) (om))))));(refine zd ?_);(clear hE);(intro W hE);go_wp2_with fail;go_roundw;(case rel=>exact⟨k+1,om,zg,by rw[Ht2.out,Ht.out,hcm.out],hE⟩);case measure=>exact zm1
  . exact zz48
theorem zz32{P:Prop}(h:P:=by go_roundw;(case rel=>exact⟨k+1,om,zg,by rw[Ht2.out,Ht.out],hE⟩);case measure=>exact zm1):P:=h
theorem J4(v:Value)(l:List Int)(a b:Nat)(w:World)(h:c9 w v l)(Hgr:Hid (j1 l=true))(ha:a<2 ^ 24)(hb':b<2 ^ 24) :
 Calls Tryz.prog 119 #[.agg #[v],.int .i64 a,.int .i64 b] w fun e w'=>e=.returned (.int .i64 (l7 l a b))∧Ext w w':=by
 obtain⟨wb,hwb⟩:=nq (w.alloc (.cells #[v] 28));have hE0:=(er w).alloc (.cells #[v] 28);have hb:=j0 w v 28;rw[<-hwb] at hE0 hb;have hg:∀W,Ext wb W->c9 W v l:=fun W hW=>h.ext (hE0.trans hW);have Hwb:=zh hwb;clear hwb h;go_in;go_wp2_with fail;rw[<-Hwb.out];go_wp2_with (first | (go_at_call 214;refine (I5 _ (ha) _).mono ?_;rintro e w1 ⟨v1,rfl,hL,hE1⟩;obtain⟨aoL,cL,adrL,rfl,hadrL,hcellL⟩:=hL.ints.nats;have hixL:=j3 (c:=cL) elI szI hadrL;clear hadrL));have hb1:∀W,Ext w1 W->W.cell? ⟨w.heap.size,0,none⟩=some v:=fun W hW=>hb W (hE1.trans hW);have hg1:∀W,Ext w1 W->c9 W v l:=fun W hW=>hg W (hE1.trans hW);have hE:=er w1;clear hb hg hL;have hall:∀y∈j7 a,y<24:=fun y hy=>I9 hy;have hlen:=B7 a;have Hd:=zh (d07 l a b);generalize j7 a=L at hcellL hixL hall hlen Hd ⊢;go_loopw [7,13] (fun ov i wr=>∃k:Nat,k<=L.length∧i=.int .i64 k∧ov=.int .i64 ((b62 l (L.take k) b:Nat):Int)∧Ext w1 wr) (fun _ i _=>L.length - (intOf i).toNat);case atStart=>exact⟨0,om,rfl,by simp[b62,U6],hE⟩
 case round =>
  clear hE;obtain⟨k,hk,rfl,rfl,hE⟩:=hrel;by_cases hlt:k<L.length
  . have hck:=hcellL k _ hlt hE;have hbx:=hb1 _ hE;have hby:=hall _ (o6 hlt);have Ht:=zh (cp4 l (L.take k) (d8 L k) b);have Ht2:=zh (I8 L k hlt);have hs:=dh1 Hgr.out (L.take k) b;have hf:=G0 Hgr.out b (d8 L k);have hs2:=M4 (show b62 l (L.take k) b<2 ^ 63 by omega) (show j6 l b (d8 L k)<2 ^ 63 by omega);go_wp2_with (first | (go_at_call 220;refine cx (H9 _ _ _ _ _ (hg1 _ hE) (Hgr) (hb') (hby)) hE ?_;clear hE;intro w' hE));exact zz32
  . exact zz48
theorem D6(v:Value)(l:List Int)(a b:Nat)(w:World)(h:c9 w v l)(Hgr:Hid (j1 l=true))(ha:a<2 ^ 24)(hb':b<2 ^ 24) :
 Calls Tryz.prog 49 #[.agg #[v],.int .i64 a,.int .i64 b] w fun e w'=>e=.returned (.int .i64 (l7 l a b))∧Ext w w':=by
 obtain⟨wb,hwb⟩:=nq (w.alloc (.cells #[v] 28));have hE0:=(er w).alloc (.cells #[v] 28);have hb:=j0 w v 28;rw[<-hwb] at hE0 hb;have hg:∀W,Ext wb W->c9 W v l:=fun W hW=>h.ext (hE0.trans hW);have Hwb:=zh hwb;clear hwb h;go_in;go_wp2_with fail;rw[<-Hwb.out];go_wp2_with (first | (go_at_call 165;refine (M6 _ (hb') _).mono ?_;rintro e w1 ⟨v1,rfl,hL,hE1⟩;obtain⟨aoL,cL,adrL,rfl,hadrL,hcellL⟩:=hL.ints.nats;have hixL:=j3 (c:=cL) elI szI hadrL;clear hadrL));have hb1:∀W,Ext w1 W->W.cell? ⟨w.heap.size,0,none⟩=some v:=fun W hW=>hb W (hE1.trans hW);have hg1:∀W,Ext w1 W->c9 W v l:=fun W hW=>hg W (hE1.trans hW);have hE:=er w1;clear hb hg hL;have hall:∀y∈j7 b,y<24:=fun y hy=>I9 hy;have hlen:=B7 b;have Hd:Hid (b62 l (j7 b) a=l7 l a b):=zh (by rw[d07,bn8]);generalize j7 b=L at hcellL hixL hall hlen Hd ⊢;go_loopw [7,9] (fun ov i wr=>∃k:Nat,k<=L.length∧i=.int .i64 k∧ov=.int .i64 ((b62 l (L.take k) a:Nat):Int)∧Ext w1 wr) (fun _ i _=>L.length - (intOf i).toNat);case atStart=>exact⟨0,om,rfl,by simp[b62,U6],hE⟩
 case round =>
  clear hE;obtain⟨k,hk,rfl,rfl,hE⟩:=hrel;by_cases hlt:k<L.length
  . have hck:=fun U=>hcellL k _ hlt (d5 w1 U);have hbx:=fun U=>hb1 _ (d5 w1 U);have hby:=hall _ (o6 hlt);have Ht:=zh (cp4 l (L.take k) (d8 L k) a);have Ht2:=zh (I8 L k hlt);have hs:=dh1 Hgr.out (L.take k) a;have hf:=G0 Hgr.out a (d8 L k);have hs2:=M4 (show b62 l (L.take k) a<2 ^ 63 by omega) (show j6 l a (d8 L k)<2 ^ 63 by omega);go_wp2_with fail;(refine wl hE ?_);(repeat (go_big_quiet_step (first | (go_at_call 166;exact Calls.lat (F5 _ _ _ _ _ (hg1 _ (d5 w1 _)) (Hgr) (ha) (hby))))));(refine zd ?_);(clear hE);(intro W hE);go_wp2_with fail;exact zz32
  . exact zz48
theorem ji8{l xs:List Int}{k:Nat}(hk:k<xs.length)(h:j4 l (nth xs k)=false):c05 l xs=false:=by
 unfold c05;have:xs.all (j4 l)=false:=by
  cases e:xs.all (j4 l)
  . rfl
  . rw[List.all_eq_true.1 e _ (b49 hk)] at h;cases h
 rw[this];rfl
theorem j88{l xs:List Int}(h:∀j,j<xs.length->j4 l (nth xs j)=true):c05 l xs=j1 l:=by
 unfold c05;rw[show xs.all (j4 l)=true from List.all_eq_true.2 fun x hx=>by obtain⟨k,hk,rfl⟩:=bb8 hx;exact h k hk];rfl
theorem zz17{P:Prop}(h:P:=by go_ret;exact⟨j5 Hs.out.symm,hE0.trans hE⟩):P:=h
theorem cb2(v u:Value)(l xs:List Int)(w:World)(h:c9 w v l)(k:c9 w u xs) :
 Calls Tryz.prog 222 #[.agg #[v],u] w fun e w'=>e=.returned (.bool (c05 l xs))∧Ext w w':=by
 obtain⟨wb,Hwb,hE0,hb,hg,hE,-⟩:=ju3 28 h;obtain⟨ao,c,adr,rfl,hlen,hadr,hcell⟩:=k.op;have hix:=j3 (c:=c) elI szI hadr;clear hadr k;clear h;go_in;go_wp2_with fail;rw[<-Hwb.out];go_loopw [9] (fun i wr=>∃k:Nat,k<=xs.length∧i=.int .i64 k∧(∀j,j<k->j4 l (nth xs j)=true)∧Ext wb wr) (fun i _=>xs.length - (intOf i).toNat);case atStart=>exact⟨0,om,rfl,om,hE⟩
 case round =>
  clear hE;obtain⟨k,hk,rfl,hall,hE⟩:=hrel;have Hall:=zh hall;clear hall;have hbx:=hb _ hE;by_cases hlt:k<xs.length
  . have hck:=hcell k _ hlt (hE0.trans hE);cases hs:j4 l (nth xs k)
    . have Hs:=zh (ji8 hlt hs);go_wp2_with (first | (go_at_call 105;refine cx (I6 _ _ _ _ (hg _ hE)) hE ?_;clear hE;intro w' hE));exact zz17
    . have Hs:=zh hs;go_wp2_with (first | (go_at_call 105;refine cx (I6 _ _ _ _ (hg _ hE)) hE ?_;clear hE;intro w' hE));go_roundw;(case rel=>exact⟨k+1,om,zg,fun j hj=>by by_cases e:j=k;(subst e;exact Hs.out);exact Hall.out j om,hE⟩);case measure=>exact zm1
  . have hkl:k=xs.length:=(by omega);subst hkl;go_wp2_with (first | (go_at_call 94;refine cx (A1 _ _ _ (hg _ hE)) hE ?_;clear hE;intro w' hE));go_ret;exact⟨j5 (j88 Hall.out).symm,hE0.trans hE⟩
def c82(l:List Int):Int:=if j1 l then ((pw (ord l) - 1:Nat):Int) else 0
theorem dq2{l:List Int}(h:j1 l=true):c82 l=((pw (ord l):Nat):Int) - 1:=by
 unfold c82;rw[if_pos h];have:=T3 (ord l);omega
theorem jl0{l:List Int}(h:j1 l=false):c82 l=0:=by unfold c82;rw[h];rfl
theorem zz56{P:Prop}(h:P:=by exact⟨o7 Hs.out.symm,hE0.trans hE⟩):P:=h
theorem ca9(v:Value)(l:List Int)(w:World)(h:c9 w v l) :
 Calls Tryz.prog 215 #[.agg #[v]] w fun e w'=>e=.returned (.int .i64 (c82 l))∧Ext w w':=by
 have hE0:=(er w).alloc (.cells #[v] 28);have hE:=er (w.alloc (.cells #[v] 28));have hb:=j0 w v 28;have hg:∀W,Ext (w.alloc (.cells #[v] 28)) W->c9 W v l:=fun W hW=>h.ext (hE0.trans hW);clear h;cases hs:j1 l
 . have Hs:=zh (jl0 hs);go_in;go_wp2_with (first | (go_at_call 94;refine cx (A1 _ _ _ (hg _ hE)) hE ?_;clear hE;intro w' hE));go_ret;exact zz56
 . have Hs:=zh (dq2 hs);have ho:=ba2 hs;have hb1:=m8 hs;have hp1:=T3 (ord l);have hp2:=b51 hb1.2;have hs1:=p6 (n:=ord l) om;go_in;go_wp2_with (first | (go_at_call 94;refine cx (A1 _ _ _ (hg _ hE)) hE ?_;clear hE;intro w' hE) | (go_at_call 99;refine cx (T8 _ _ _ (hg _ hE)) hE ?_;clear hE;intro w' hE));go_ret;exact zz56
theorem b35(w:World)(a b:Int)(T:TypeId):c9 (w.alloc (.cells #[.int .i64 a,.int .i64 b] T)) (.slice (some ⟨w.heap.size,0,none⟩) 2 2) [a,b]:=by
 refine⟨_,2,rfl,Nat.le_refl _,zm,fun i hi=>⟨_,rfl,?_⟩⟩;match i,hi with
 | 0,_=>simp[go_sem,nth,Addr.add]
 | 1,_=>simp[go_sem,nth,Addr.add]
theorem bu1(l:List Int)(a b:Int):c05 l [a,b]=(j4 l a&&j4 l b):=by
 unfold c05;cases h:j4 l a
 . simp[h]
 . simp[h,dv9 h]
theorem T9(v u:Value)(l xs:List Int)(w:World)(h:c9 w v l)(k:c9 w u xs){b:Bool}(hb:c05 l xs=b) :
 Calls Tryz.prog 222 #[.agg #[v],u] w fun e w'=>e=.returned (.bool b)∧Ext w w':=by
 subst hb;exact cb2 v u l xs w h k
theorem p8(v:Value)(l:List Int)(a:Int)(w:World)(h:c9 w v l){b:Bool}(hb:j4 l a=b) :
 Calls Tryz.prog 105 #[.agg #[v],.int .i64 a] w fun e w'=>e=.returned (.bool b)∧Ext w w':=by
 subst hb;exact I6 v l a w h
theorem l8(v:Value)(l:List Int)(a:Int)(w:World)(h:c9 w v l){b:Bool}(hb:j4 l a=b) :
 Calls Tryz.prog 46 #[.agg #[v],.int .i64 a] w fun e w'=>e=.returned (.bool b)∧Ext w w':=by
 subst hb;exact R1 v l a w h
def bump(t:List Int)(z:Nat):List Int:=t.set z (nth t z+1)
theorem bu9(t:List Int)(z:Nat):(bump t z).length=t.length:=by simp[bump]
def P6(l:List Int)(x:Nat)(t:List Int)(L:List Nat):List Int:=L.foldl (fun t y=>bump t (m6 l x y)) t
def H4(l:List Int)(b:Nat)(t:List Int)(L:List Nat):List Int:=L.foldl (fun t x=>P6 l x t (j7 b)) t
theorem cp6(l:List Int)(x:Nat)(t:List Int)(L:List Nat)(y:Nat):P6 l x t (L++[y])=bump (P6 l x t L) (m6 l x y):=by
 unfold P6;rw[List.foldl_append];rfl
theorem cd0(l:List Int)(b:Nat)(t:List Int)(L:List Nat)(x:Nat):H4 l b t (L++[x])=P6 l x (H4 l b t L) (j7 b):=by
 unfold H4;rw[List.foldl_append];rfl
theorem dd5(t:List Int)(z i:Nat)(hz:z<t.length):nth (bump t z) i=if i=z then nth t z+1 else nth t i:=by
 unfold bump nth;simp only[List.getD_eq_getElem?_getD,List.getElem?_set];by_cases h:i=z
 . subst h;simp[hz]
 . have h':¬z=i:=fun e=>h e.symm;simp[h,h']
def be6(t:List Int)(B:Int):Prop:=∀i,0<=nth t i∧nth t i<=B
theorem be6.bump{t:List Int}{B:Int}(h:be6 t B){z:Nat}(hz:z<t.length):be6 (bump t z) (B+1):=fun i=>by
 rw[dd5 t z i hz]
 have h1:=h z
 have h2:=h i
 split<;>omega
theorem be6.zeros(n:Nat):be6 (List.replicate n 0) 0:=fun i=>by
 unfold nth
 simp only[List.getD_eq_getElem?_getD,List.getElem?_replicate]
 split<;>simp
def by0(l:List Int)(a b:Int):List Int:=if j4 l a&&j4 l b then H4 l b.toNat (List.replicate (ord l) 0) (j7 a.toNat) else []
theorem ds8{l:List Int}{a b:Int}(h:(j4 l a&&j4 l b)=false):by0 l a b=[]:=by unfold by0;rw[h];rfl
theorem cj3{l:List Int}{a b:Nat}(h:(j4 l a&&j4 l b)=true):by0 l a b=H4 l b (List.replicate (ord l) 0) (j7 a):=by unfold by0;rw[h];rfl
def E0(a b:Nat):Nat:=a ^^^ (a &&& b)
theorem Q4(a b i:Nat):(E0 a b).testBit i=(a.testBit i && !b.testBit i):=by
 unfold E0;rw[Nat.testBit_xor,Nat.testBit_and];cases a.testBit i<;>cases b.testBit i<;>rfl
theorem bq3{a b n:Nat}(h:a<2 ^ n):E0 a b<2 ^ n:=Nat.xor_lt_two_pow h (Nat.lt_of_le_of_lt Nat.and_le_left h)
theorem bi1:∀(n a b:Nat),a<2 ^ n->E0 a b+(a &&& b)=a
 | 0,a,b,h=>by
  obtain rfl:a=0:=by simp at h;omega
  simp[E0]
 | n+1,a,b,h=>by
  have hp:2 ^ (n+1)=2 ^ n*2:=Nat.pow_succ 2 n
  have ih:=bi1 n (a / 2) (b / 2) om
  have d1:E0 a b / 2=E0 (a / 2) (b / 2):=by
   apply Nat.eq_of_testBit_eq;intro i;rw[<-Nat.testBit_succ,Q4,Q4,Nat.testBit_succ,Nat.testBit_succ]
  have d2:(a &&& b) / 2=(a / 2) &&& (b / 2):=by
   exact zz160
  have m1:(E0 a b).testBit 0=(a.testBit 0 && !b.testBit 0):=Q4 a b 0
  have m2:(a &&& b).testBit 0=(a.testBit 0&&b.testBit 0):=Nat.testBit_and a b 0
  rw[Nat.testBit_zero,Nat.testBit_zero,Nat.testBit_zero] at m1 m2
  have e1:E0 a b % 2+(a &&& b) % 2=a % 2:=by
   rw[Bool.eq_iff_iff] at m1 m2;simp only[decide_eq_true_eq,Bool.and_eq_true,Bool.not_eq_true',decide_eq_false_iff_not] at m1 m2;omega
  omega
theorem dy0{a b:Nat}:E0 a b=0↔∀i,a.testBit i=true->b.testBit i=true:=by
 constructor
 . intro h i hi;have:=Q4 a b i;rw[h,Nat.zero_testBit,hi] at this;simpa using this.symm
 . intro h;apply Nat.eq_of_testBit_eq;intro i;rw[Q4,Nat.zero_testBit];cases e:a.testBit i
   . rfl
   . rw[h i e];rfl
theorem j16{a b:Nat}(ha:a<2 ^ 63)(hb:b<2 ^ 63):dv6 a b=((E0 a b:Nat):Int):=by
 show IntKind.i64.wrap ((BitVec.ofInt IntKind.i64.bits (a:Int) &&& ~~~ BitVec.ofInt IntKind.i64.bits (b:Int)).toNat:Int)=_;have e:(BitVec.ofInt IntKind.i64.bits (a:Int) &&& ~~~ BitVec.ofInt IntKind.i64.bits (b:Int))=(BitVec.ofInt IntKind.i64.bits (a:Int) ^^^ (BitVec.ofInt IntKind.i64.bits (a:Int) &&& BitVec.ofInt IntKind.i64.bits (b:Int))):=by
  ext i hi;simp only[BitVec.getElem_and,BitVec.getElem_xor,BitVec.getElem_not];cases (BitVec.ofInt IntKind.i64.bits (a:Int))[i]<;>cases (BitVec.ofInt IntKind.i64.bits (b:Int))[i]<;>rfl
 rw[e,BitVec.toNat_xor,BitVec.toNat_and,bq4 ha,bq4 hb];exact bd2 (bq3 ha)
def bm(f:Nat->Nat):Nat->Nat × Nat
 | 0=>(0,0)
 | k+1=>if (bm f k).2<f k then (k,f k) else bm f k
theorem bi2{f:Nat->Nat}{k:Nat}(h:(bm f k).2<f k):bm f (k+1)=(k,f k):=by rw[bm,if_pos h]
theorem bu8{f:Nat->Nat}{k:Nat}(h:¬(bm f k).2<f k):bm f (k+1)=bm f k:=by rw[bm,if_neg h]
theorem jp5(f:Nat->Nat):bm f 1=(0,f 0):=by
 by_cases h:(bm f 0).2<f 0
 . exact bi2 h
 . rw[bu8 h];have:f 0=0:=(by simp[bm] at h;exact h);rw[this];rfl
theorem d64(f:Nat->Nat):∀k j,j<k->f j<=(bm f k).2
 | k+1,j,h=>by
  by_cases e:(bm f k).2<f k
  . rw[bi2 e]
    by_cases hj:j=k
    . subst hj;exact Nat.le_refl _
    . have:=d64 f k j om;show f j<=f k;omega
  . rw[bu8 e]
    by_cases hj:j=k
    . subst hj;omega
    . exact d64 f k j om
theorem dy8(f:Nat->Nat):∀k,(bm f k).2=0∨(bm f k).2=f (bm f k).1
 | 0=>Or.inl rfl
 | k+1=>by
  by_cases e:(bm f k).2<f k
  . rw[bi2 e];exact Or.inr rfl
  . rw[bu8 e];exact dy8 f k
theorem jh2(f:Nat->Nat):∀k,(bm f k).1<=k - 1
 | 0=>Nat.le_refl 0
 | k+1=>by
  by_cases e:(bm f k).2<f k
  . rw[bi2 e];exact Nat.le_refl _
  . rw[bu8 e];have:=jh2 f k;omega
def b00(l:List Int)(a left x:Nat):Nat:=cnt (j6 l a x &&& left)
def E9(l:List Int)(a left:Nat):Nat:=(bm (b00 l a left) (ord l)).1
def W5(l:List Int)(a:Nat):Nat->Nat->Nat->Nat
 | 0,out,_=>out
 | n+1,out,left=>if left=0 then out else W5 l a n (out ||| 2 ^ E9 l a left) (E0 left (j6 l a (E9 l a left)))
theorem cb8(l:List Int)(a n out:Nat):W5 l a n out 0=out:=by cases n<;>rfl
theorem c26{l:List Int}{a n out left:Nat}(h:left≠0) :
 W5 l a (n+1) out left=W5 l a n (out ||| 2 ^ E9 l a left) (E0 left (j6 l a (E9 l a left))):=by rw[W5,if_neg h]
def l9(l:List Int):Nat:=pw (ord l) - 1
def R7(l:List Int)(a:Int):Int:=if j4 l a&&decide (a≠0) then (W5 l a.toNat (l9 l) 0 (l9 l):Int) else 0
def B9(l:List Int)(a:Int):Bool:=j4 l a&&decide (a≠0)
theorem J9{l:List Int}{a:Int}(h:j4 l a=false):B9 l a=false:=by unfold B9;rw[h];rfl
theorem G2(l:List Int):B9 l 0=false:=by unfold B9;simp
theorem M5{l:List Int}{n:Nat}(h:j4 l n=true)(h0:0<n):B9 l n=true:=by unfold B9;rw[h];simp;omega
theorem bf7{l:List Int}{a:Int}(h:B9 l a=false):R7 l a=0:=by unfold R7;unfold B9 at h;rw[h];rfl
theorem cb7{l:List Int}{n:Nat}(h:B9 l n=true):R7 l n=(W5 l n (l9 l) 0 (l9 l):Int):=by unfold R7;unfold B9 at h;rw[h];rfl
theorem bv7(l:List Int):l9 l<2 ^ ord l:=by unfold l9;have:=T3 (ord l);rw[<-dw6];omega
theorem c24(l:List Int)(i:Nat):(l9 l).testBit i=decide (i<ord l):=by unfold l9;rw[dw6];exact Nat.testBit_two_pow_sub_one _ _
theorem cv5{l:List Int}(h:j1 l=true)(a left:Nat):E9 l a left<ord l:=by
 unfold E9;have:=jh2 (b00 l a left) (ord l);have:=(m8 h).1;omega
theorem dw5{a i:Nat}(h:a.testBit i=true):a≠0:=by intro e;rw[e,Nat.zero_testBit] at h;cases h
theorem b90{a:Nat}(h:a≠0):∃i,a.testBit i=true:=by
 refine Classical.byContradiction fun hn=>h (Nat.eq_of_testBit_eq fun i=>?_);rw[Nat.zero_testBit];cases e:a.testBit i
 . rfl
 . exact absurd ⟨i,e⟩ hn
theorem d74{a:Nat}(h:cnt a≠0):a≠0:=fun e=>h (by rw[e];exact W7)
theorem N0{a n i:Nat}(ha:a<2 ^ n)(h:a.testBit i=true):i<n:=by
 refine Classical.byContradiction fun hn=>?_;rw[U2 ha om] at h;cases h
theorem jh7{l:List Int}(hg:j1 l=true){a left:Nat}(ha:a≠0)(ha2:a<2 ^ ord l)(hl:left≠0)(hl2:left<2 ^ ord l) :
 ∃x,x<ord l∧b00 l a left x≠0:=by
 obtain⟨y,hy⟩:=b90 ha;obtain⟨z,hz⟩:=b90 hl;have hy2:=N0 ha2 hy;have hz2:=N0 hl2 hz;have ho:=m9 hg;have hb:=(m8 hg).2;have he:m6 l (m6 l z (p9 l y)) y=z:=by
  rw[I0 l ho,D4 l (p9 l y) y,J6 l ho,D4 l z 0,A7 l ho z hz2]
 refine⟨m6 l z (p9 l y),F2 l ho _ _,?_⟩;have hbit:(j6 l a (m6 l z (p9 l y)) &&& left).testBit z=true:=by
  rw[Nat.testBit_and,hz,D0.2 ⟨y,om,hy,he⟩];rfl
 have hp:=R6 (Nat.pos_of_ne_zero (dw5 hbit)) (Nat.lt_of_le_of_lt Nat.and_le_right (nlt hl2 (C4 hg)));unfold b00;omega
theorem cb9{l:List Int}(hg:j1 l=true){a left:Nat}(ha:a≠0)(ha2:a<2 ^ ord l)(hl:left≠0)(hl2:left<2 ^ ord l) :
 E0 left (j6 l a (E9 l a left))<left:=by
 obtain⟨x,hx,hn⟩:=jh7 hg ha ha2 hl hl2;have h1:=d64 (b00 l a left) (ord l) x hx;have h2:b00 l a left (E9 l a left)≠0:=by
  unfold E9;rcases dy8 (b00 l a left) (ord l) with h | h<;>omega
 have h3:j6 l a (E9 l a left) &&& left≠0:=d74 h2;have h4:=bi1 (ord l) left (j6 l a (E9 l a left)) hl2;rw[Nat.and_comm] at h3;omega
theorem j26{l:List Int}(hg:j1 l=true)(a x c:Nat):E0 (j6 l a x) c=j6 l a x &&& E0 (l9 l) c:=by
 apply Nat.eq_of_testBit_eq;intro i;rw[Q4,Nat.testBit_and,Q4,c24];cases e:(j6 l a x).testBit i
 . rfl
 . have:=N0 (Y5 (m9 hg) a x) e;simp[this]
theorem j27(l:List Int)(s c:Nat):E0 (l9 l) (c ||| s)=E0 (E0 (l9 l) c) s:=by
 apply Nat.eq_of_testBit_eq;intro i;rw[Q4,Q4,Q4,Nat.testBit_or];cases (l9 l).testBit i<;>cases c.testBit i<;>cases s.testBit i<;>rfl
theorem cy6{l:List Int}{c:Nat}(hc:c<2 ^ ord l):E0 (l9 l) c=0↔c=l9 l:=by
 rw[dy0];constructor
 . intro h;apply Nat.eq_of_testBit_eq;intro i;cases e:(l9 l).testBit i
   . rw[c24] at e;exact U2 hc (by have:=of_decide_eq_false e;omega)
   . exact h i e
 . rintro rfl i hi;exact hi
theorem cm6(l:List Int):E0 (l9 l) 0=l9 l:=by
 apply Nat.eq_of_testBit_eq;intro i;rw[Q4,Nat.zero_testBit];simp
def bmI(f:Nat->Nat)(k:Nat):Nat × Int:=if k=0 then (0,-1) else ((bm f k).1,((bm f k).2:Int))
theorem d63(f:Nat->Nat):bmI f 0=(0,-1):=rfl
theorem bg6(f:Nat->Nat){k:Nat}(h:k≠0):bmI f k=((bm f k).1,((bm f k).2:Int)):=by unfold bmI;rw[if_neg h]
theorem jj4{f:Nat->Nat}{k:Nat}(h:(bmI f k).2<(f k:Int)):bmI f (k+1)=(k,(f k:Int)):=by
 rw[bg6 f (Nat.succ_ne_zero k)];by_cases hk:k=0
 . subst hk;rw[jp5]
 . rw[bg6 f hk] at h;rw[bi2 (f:=f) (k:=k) (by have:((bm f k).2:Int)<(f k:Int):=h;omega)]
theorem jp4{f:Nat->Nat}{k:Nat}(h:¬(bmI f k).2<(f k:Int)):bmI f (k+1)=bmI f k:=by
 by_cases hk:k=0
 . subst hk;rw[d63] at h;exact absurd (show (-1:Int)<(f 0:Int) by omega) h
 . rw[bg6 f (Nat.succ_ne_zero k)];rw[bg6 f hk] at h ⊢;rw[bu8 (f:=f) (k:=k) (by intro e;exact h (show ((bm f k).2:Int)<(f k:Int) by omega))]
theorem dt9{f:Nat->Nat}{B:Nat}(h:∀j,f j<=B):∀k,(bm f k).2<=B
 | 0=>Nat.zero_le _
 | k+1=>by
  by_cases e:(bm f k).2<f k
  . rw[bi2 e];exact h k
  . rw[bu8 e];exact dt9 h k
theorem jp3{f:Nat->Nat}{B:Nat}(h:∀j,f j<=B)(k:Nat) : -1<=(bmI f k).2∧(bmI f k).2<=B:=by
 by_cases hk:k=0
 . subst hk;rw[d63];constructor<;>simp<;>omega
 . rw[bg6 f hk];have:=dt9 h k;constructor<;>simp<;>omega
theorem c83(l:List Int)(a left:Nat):∀j,b00 l a left j<=24:=fun _=>r9 _
theorem j92{l:List Int}(h:j1 l=true)(a left:Nat):(bmI (b00 l a left) (ord l)).1=E9 l a left:=by
 rw[bg6 _ (by have:=(m8 h).1;omega)];rfl
end Go.Zz
