/- Slices of strings that a call makes; glued. -/
import Derived.Test.YtnnbhcalddkmmaaGreatGr14
set_option linter.unusedSimpArgs false
set_option linter.unusedVariables false
set_option linter.unnecessarySimpa false
set_option maxHeartbeats 1000000
set_option maxRecDepth 4000
namespace Go.Zz
open Go.RowKit Go.Proofs
theorem jh3:(Tryz.prog.info? 9).map (fun i=>(i.zero,i.size,i.bytes))=some (some (.string ⟨#[]⟩),1,16):=by kernel_rfl
theorem jt2:Tryz.prog.underlying 24=some (.slice 9):=by kernel_rfl
theorem elS:Tryz.prog.underlying 24=some (.slice (Tryz.prog.elem 24)):=by kernel_rfl
theorem szS:∀w,(Go.sizeOf (Tryz.prog.elem 24)).run Tryz.prog w=.ok 1 w:=fun w=>by kernel_rfl
def C0(l:List ByteArray)(i:Nat):ByteArray:=l.getD i ⟨#[]⟩
def Y8(w0 w:World)(v:Value)(l:List ByteArray):Prop :=
 w.ownsRow w0.heap.size 9 1 v l.length (l.map Value.string)∧l.length<=1000000
theorem Y8.blk{w0 w:World}{v:Value}{l:List ByteArray}(h:Y8 w0 w v l):∀k,v.ownBlock=some k->w0.heap.size<=k∧k<w.heap.size:=h.1.lt
theorem Y8.alloc{w0 w:World}{v:Value}{l:List ByteArray}(h:Y8 w0 w v l)(o:Obj):Y8 w0 (w.alloc o) v l:=⟨h.1.alloc o,h.2⟩
theorem Y8.ext{w0 w w':World}{v:Value}{l:List ByteArray}(h:Y8 w0 w v l)(hE:Ext w w'):Y8 w0 w' v l:=by
 exact zz152
theorem bn3{w0 w:World}(hE:Ext w0 w):Y8 w0 (w.alloc (.cells #[] 9)) (.slice (some ⟨w.heap.size,0,none⟩) 0 0) []:=by
 have:=World.ownsRow_lit (base:=w0.heap.size) (e:=9) (size:=1) w #[] 0 hE.size (by unfold maxLen;omega) zm;exact⟨by simpa using this,zm⟩
def bh8(w:World)(v:Value)(l:List ByteArray):Prop :=
 ∃(ao:Option Addr) (c:Nat),v=.slice ao l.length c∧l.length<=1000000∧∀i,i<l.length->∃g,ao=some ⟨g,0,none⟩∧w.cell? ⟨g,i,none⟩=some (.string (C0 l i))
theorem Y8.strs{w0 w:World}{v:Value}{l:List ByteArray}(h:Y8 w0 w v l):bh8 w v l:=by
 obtain⟨h1,h2⟩:=h;rcases h1.2 with ⟨rfl,hl⟩ | ⟨g,cap,cur,rfl,hg,hh,hc,r⟩
 . exact⟨none,0,by rw[hl],h2,om⟩
 . refine⟨some ⟨g,0,none⟩,cap,rfl,h2,fun i hi=>⟨g,rfl,?_⟩⟩;rw[World.ownsRow.cellAt h1 i om];simp[C0,List.getD,hi]
section
variable {ops:Array Oper} {rest:List Oper} {o:Oper} {a:Act} {Q:Exit->Act->World->Prop}
theorem Z3(hg:o.guard=none)(s x:Operand)(hop:o.op=Op.call { callee:=Callee.builtin Builtin.append,args:=#[s,x],argTypes:=#[24,24] })
 (w0 W:World) (v:Value) (l:List ByteArray) (y:ByteArray) (hO:Y8 w0 W v l) (hE:Ext w0 W) (hn:l.length<1000000) (hs:a.eval s=v) (hx:a.eval x=.slice (some ⟨W.heap.size,0,none⟩) 1 1)
 (hK:∀v' w',Y8 w0 w' v' (l++[y])->Ext w0 w'->wpList Tryz.prog ops Q rest (a.put o.dst v') w') :
 wpList Tryz.prog ops Q (o :: rest) a (W.alloc (.cells #[.string y] 9)):=by
 obtain⟨i,hi,hz,hs1,hby⟩:=info_parts jh3;refine wpList_append_own _ hg s x 24 hop w0.heap.size 9 i (.string ⟨#[]⟩) 1 16 jt2 hi hz hs1 hby rfl om v l.length _ hs (hO.alloc _).1 ⟨W.heap.size,0,none⟩ 1 1 [.string y] hx rfl ?_ (by simp[Value.oneCell']) (by unfold maxLen;omega) om (by have:=hE.size;simp;omega) ?_
 . exact cell_one_new _ _ _
 . intro v' w' h1 hg' _;have hE1:=hE.alloc (.cells #[.string y] 9);exact zz109
end
theorem zz127{P:Prop}(h:P:=by have hk1:(0:Int)<k:=(by omega);go_wp2_with fail;go_round;(case rel=>exact⟨k+1,_,om,zg,rfl,zh (by rw[b80 _ _ hk0,<-Hu.out,Hy.out])⟩);case measure=>exact zm1):P:=h
theorem zz132{P:Prop}(h:P:=by have hk1:k=0:=(by omega);subst hk1;go_wp2_with fail;go_round;(case rel=>exact⟨1,_,om,rfl,rfl,zh (by rw[b69,Hu.out,Hy.out];rfl)⟩);case measure=>exact zm1):P:=h
theorem zz177{P:Prop}(h:P:=by have hkl:k=l.length:=(by omega);subst hkl;clear hix hcell;go_wp2_with fail;go_ret;exact⟨j9 Hu.out,rfl⟩):P:=h
theorem c25(v:Value)(l:List ByteArray)(s:ByteArray)(w:World)(h:bh8 w v l)(hs:s.size<=1)(hl:∀i,i<l.length->(C0 l i).size<=13) :
 Calls Tryz.prog 210 #[v,.string s] w fun e w'=>e=.returned (.string (jn s (C0 l) l.length))∧w=w':=by
 obtain⟨ao,c,rfl,hlen,hcell⟩:=h;have hix:∀(i:Nat) W,i<l.length->∃g,ao=some ⟨g,0,none⟩∧(Instr.indexAt 24 (.slice ao l.length c) (.int .i64 (i:Int))).run Tryz.prog W=.ok (.pointer (some ⟨g,i,none⟩)) W:=by
  intro i W hi;obtain⟨g,rfl,-⟩:=hcell i hi;refine⟨g,rfl,?_⟩;rw[run_indexAt_slice (h:=elS),if_pos om,szS];exact zz71
 have Hl:=zh hl;clear hl;go_in;go_wp2_with fail;go_loop [5,10] (fun t i=>∃(k:Nat) (u:ByteArray),k<=l.length∧i=.int .i64 k∧t=.string u∧Hid (u=jn s (C0 l) k)) (fun _ i=>l.length - (intOf i).toNat);case atStart=>exact⟨0,_,om,rfl,rfl,zh rfl⟩
 case round =>
  obtain⟨k,u,hk,rfl,rfl,Hu⟩:=hrel;have hus:u.size<=14*k:=by rw[Hu.out];exact b81 _ _ hs k fun i hi=>Hl.out i om
  by_cases hlt:k<l.length
  . obtain⟨g,hg,hix1⟩:=hix k w hlt;obtain⟨g',hg',hck⟩:=hcell k hlt;have hgg:g'=g:=(by rw[hg] at hg';simp only[Option.some.injEq,Addr.mk.injEq,and_true] at hg';exact hg'.symm);subst hgg;clear hix hcell;subst hg;have hys:=Hl.out k hlt;obtain⟨y,hy⟩:=nq (C0 l k);rw[<-hy] at hck hys;have Hy:=zh hy;clear hy;by_cases hk0:0<k
    . exact zz127
    . exact zz132
  . exact zz177
theorem bw5(s:ByteArray)(f g:Nat->ByteArray):∀k,(∀i,i<k->f i=g i)->jn s f k=jn s g k:=by
 intro k;induction k with
 | zero=>intro _;rfl
 | succ k ih=>intro h;unfold jn;rw[ih fun i hi=>h i om,h k om]
theorem bc0(l:List Int)(i:Nat)(h:i<l.length):C0 (l.map o3) i=o3 (nth l i):=by
 simp[C0,nth,List.getD,h]
def F7(l:List Int):ByteArray:=if l.length=0 then ⟨#[110,111,110,101]⟩ else jn b44 (fun i=>o3 (nth l i)) l.length
theorem cj4(l:List Int)(k:Nat)(h:k<l.length):(l.take (k+1)).map o3=(l.take k).map o3++[o3 (nth l k)]:=by
 rw[List.take_add_one,List.map_append];simp[nth,List.getD,h]
theorem zz46{P:Prop}(h:P:=by have hlk:((l.take k).map o3).length<1000000:=(by rw[List.length_map,List.length_take];omega);go_wp2_with (first | (go_at_call 98;with_reducible refine (hcI _).mono ?_;rintro e wc ⟨rfl,hEc⟩) | (at_builtin;refine Z3 rfl _ _ rfl w _ _ _ _ (hO.ext hEc) (hE.trans hEc) hlk rfl rfl ?_;intro v1 w1 hO1 hE1));go_roundw;(case rel=>exact⟨k+1,om,zg,by rw[cj4 _ _ hlt];exact hO1,hE1⟩);case measure=>exact zm1):P:=h
theorem zz169{P:Prop}(h:P:=by go_wp2_with (refine hc.mono ?_;rintro e w1 ⟨rfl,rfl⟩);go_ret;exact⟨j9 (by rw[He.out,List.length_map]),hE⟩):P:=h
theorem dk6(v:Value)(l:List Int)(w:World)(h:c9 w v l)(hr:∀i,i<l.length -> -1<=nth l i∧nth l i<1000000000000)(hl:l.length<=1000) :
 Calls Tryz.prog 110 #[v] w fun e w'=>e=.returned (.string (F7 l))∧Ext w w':=by
 obtain⟨ao,c,adr,rfl,hlen,hadr,hcell⟩:=h.op;have hix:=j3 (c:=c) elI szI hadr;clear hadr h;have Hr:=zh hr;clear hr;have hO0:=bn3 (er w);have hE0:=(er w).alloc (.cells #[] 9);by_cases h0:l.length=0
 . have He:Hid (F7 l=⟨#[110,111,110,101]⟩):=zh (by unfold F7;rw[if_pos h0]);exact zz124
 . have h00:((l.length:Int) == 0)=false:=(by rw[beq_eq_false_iff_ne];omega);have He:Hid (F7 l=jn b44 (C0 (l.map o3)) (l.map o3).length):=zh (by
    unfold F7;rw[if_neg h0,List.length_map];exact bw5 _ _ _ _ fun i hi=>(bc0 l i hi).symm)
   go_in;go_wp2_with fail;go_loopw [3,12] (fun v i wr=>∃k:Nat,k<=l.length∧i=.int .i64 k∧Y8 w wr v ((l.take k).map o3)∧Ext w wr) (fun _ i _=>l.length - (intOf i).toNat);(case atStart=>exact⟨0,om,rfl,hO0,hE0⟩);case round =>
    obtain⟨k,hk,rfl,hO,hE⟩:=hrel;by_cases hlt:k<l.length
    . have hck:=hcell k _ hlt hE;have hrk:=Hr.out k hlt;have hcI:=A4 (nth l k) hrk;exact zz46
    . have hkl:k=l.length:=(by omega);subst hkl;rw[List.take_length] at hO;have hS:=hO.strs;have hc:=c25 _ (l.map o3) b44 _ hS (by decide) (fun i hi=>by
       rw[List.length_map] at hi
       rw[bc0 l i hi];exact o9 (Hr.out i hi))
      exact zz169
theorem cf8(s:ByteArray)(f:Nat->ByteArray)(hs:s.size<=1):∀k,(∀i,i<k->(f i).size<=5000)->(jn s f k).size<=5001*k:=by
 intro k;induction k with
 | zero=>intro _;exact Nat.le_refl _
 | succ k ih =>
  exact zz168
def spB:ByteArray:=⟨#[32]⟩
def C9(l:List ByteArray):ByteArray:=jn spB (C0 l) l.length
theorem cx4(v:Value)(l:List ByteArray)(s:ByteArray)(w:World)(h:bh8 w v l)(hs:s.size<=1)(hl:∀i,i<l.length->(C0 l i).size<=5000)(hn:l.length<=100) :
 Calls Tryz.prog 210 #[v,.string s] w fun e w'=>e=.returned (.string (jn s (C0 l) l.length))∧w=w':=by
 obtain⟨ao,c,rfl,hlen,hcell⟩:=h;have hix:∀(i:Nat) W,i<l.length->∃g,ao=some ⟨g,0,none⟩∧(Instr.indexAt 24 (.slice ao l.length c) (.int .i64 (i:Int))).run Tryz.prog W=.ok (.pointer (some ⟨g,i,none⟩)) W:=by
  intro i W hi;obtain⟨g,rfl,-⟩:=hcell i hi;refine⟨g,rfl,?_⟩;rw[run_indexAt_slice (h:=elS),if_pos om,szS];exact zz71
 have Hl:=zh hl;clear hl;go_in;go_wp2_with fail;go_loop [5,10] (fun t i=>∃(k:Nat) (u:ByteArray),k<=l.length∧i=.int .i64 k∧t=.string u∧Hid (u=jn s (C0 l) k)) (fun _ i=>l.length - (intOf i).toNat);case atStart=>exact⟨0,_,om,rfl,rfl,zh rfl⟩
 case round =>
  obtain⟨k,u,hk,rfl,rfl,Hu⟩:=hrel;have hus:u.size<=5001*k:=by rw[Hu.out];exact cf8 _ _ hs k fun i hi=>Hl.out i om
  by_cases hlt:k<l.length
  . obtain⟨g,hg,hix1⟩:=hix k w hlt;obtain⟨g',hg',hck⟩:=hcell k hlt;have hgg:g'=g:=(by rw[hg] at hg';simp only[Option.some.injEq,Addr.mk.injEq,and_true] at hg';exact hg'.symm);subst hgg;clear hix hcell;subst hg;have hys:=Hl.out k hlt;obtain⟨y,hy⟩:=nq (C0 l k);rw[<-hy] at hck hys;have Hy:=zh hy;clear hy;by_cases hk0:0<k
    . exact zz127
    . exact zz132
  . exact zz177
theorem cg1(v:Value)(l:List ByteArray)(w:World)(h:bh8 w v l)(hl:∀i,i<l.length->(C0 l i).size<=5000)(hn:l.length<=100) :
 Calls Tryz.prog 96 #[v] w fun e w'=>e=.returned (.string (C9 l))∧w=w':=by
 have hc:=cx4 v l spB w h (by decide) hl hn;go_in;go_wp2_with (refine hc.mono ?_;rintro e w' ⟨rfl,rfl⟩);go_ret;exact⟨rfl,rfl⟩
theorem cj0(w:World)(l:List ByteArray)(T:TypeId)(hn:l.length<=1000000):bh8 (w.alloc (.cells (l.map Value.string).toArray T)) (.slice (some ⟨w.heap.size,0,none⟩) l.length l.length) l:=by
 refine⟨_,l.length,rfl,hn,fun i hi=>⟨_,rfl,?_⟩⟩;have:=(Blk.new w T (l.map Value.string).toArray).cell (i:=i) (v:=.string (C0 l i)) (by simp[C0,List.getD,hi]);exact this
theorem bh8.ext{w w':World}{v:Value}{l:List ByteArray}(h:bh8 w v l)(hE:Ext w w'):bh8 w' v l:=by
 obtain⟨ao,c,rfl,hn,hc⟩:=h;exact⟨ao,c,rfl,hn,fun i hi=>by obtain⟨g,rfl,hcc⟩:=hc i hi;exact⟨g,rfl,hE.cell hcc⟩⟩
theorem zz77{P:Prop}(h:P:=by have Hn:=zh (dd1 e);have hq1:(x == nth xs k)=false:=(by rw[beq_eq_false_iff_ne];exact fun h=>e h.symm);have hq2:(nth xs k == x)=false:=(by rw[beq_eq_false_iff_ne];exact e);clear e;go_wp2_with fail;go_round;(case rel=>exact⟨k+1,om,zg,by rw[Hn.out]⟩);case measure=>exact zm1):P:=h
theorem zz91{P:Prop}(h:P:=by have Hn:=zh (cz2 e);have hq1:(x == nth xs k)=true:=(by rw[e];simp);have hq2:(nth xs k == x)=true:=(by rw[e];simp);clear e;go_wp2_with fail;go_round;(case rel=>exact⟨k+1,om,zg,by rw[Hn.out];go_num⟩);case measure=>exact zm1):P:=h
theorem c03(u:Value)(xs:List Int)(x:Int)(w:World)(hu:c9 w u xs) :
 Calls Tryz.prog 233 #[u,.int .i64 x] w fun e w'=>e=.returned (.int .i64 (bw9 xs x:Nat))∧w=w':=by
 obtain⟨ao,c,adr,rfl,hlen,hadr,hcell⟩:=hu.op;have hix:=j3 (c:=c) elI szI hadr;clear hadr hu;go_in;go_wp2_with fail;go_loop [5,10] (fun n i=>∃k:Nat,k<=xs.length∧i=.int .i64 k∧n=.int .i64 (b48 xs x k:Nat)) (fun _ i=>xs.length - (intOf i).toNat);case atStart=>exact⟨0,om,rfl,rfl⟩
 case round =>
  obtain⟨k,hk,rfl,rfl⟩:=hrel;have hm:=bx0 xs x k;by_cases hlt:k<xs.length
  . have hck:=hcell k w hlt (er _);by_cases e:nth xs k=x
    . exact zz91
    . exact zz77
  . have hkl:k=xs.length:=(by omega);subst hkl;exact zz142
theorem bz5(u:Value)(xs:List Int)(x:Int)(w:World)(hu:c9 w u xs) :
 Calls Tryz.prog 184 #[u,.int .i64 x] w fun e w'=>e=.returned (.int .i64 (bw9 xs x:Nat))∧w=w':=by
 obtain⟨ao,c,adr,rfl,hlen,hadr,hcell⟩:=hu.op;have hix:=j3 (c:=c) elI szI hadr;clear hadr hu;go_in;go_wp2_with fail;go_loop [5,6] (fun n i=>∃k:Nat,k<=xs.length∧i=.int .i64 k∧n=.int .i64 (b48 xs x k:Nat)) (fun _ i=>xs.length - (intOf i).toNat);case atStart=>exact⟨0,om,rfl,rfl⟩
 case round =>
  obtain⟨k,hk,rfl,rfl⟩:=hrel;have hm:=bx0 xs x k;by_cases hlt:k<xs.length
  . have hck:=hcell k w hlt (er _);by_cases e:nth xs k=x
    . exact zz91
    . exact zz77
  . have hkl:k=xs.length:=(by omega);subst hkl;exact zz142
theorem cc9(v u:Value)(l:List Int)(X:List Nat)(w:World)(h:c9 w v l)(hu:c9 w u (b9 X))(Hgr:Hid (j1 l=true))(hX:Hid (∀x∈X,x<24)) :
 Calls Tryz.prog 235 #[.agg #[v],u] w fun e w'=>e=.returned (.int .i64 (sbs l X:Nat))∧Ext w w':=by
 obtain⟨wb,Hwb,hE0,hb,hg,hE,Hsz⟩:=ju3 28 h;clear h;have hu':=hu.ext hE0;have hlen:X.length<=17592186044416:=by obtain⟨_,_,_,_,h',_⟩:=hu;simpa[j2] using h'
 obtain⟨ao,c,adr,rfl,hadr,hcell⟩:=hu'.nats;have hix:=j3 (c:=c) elI szI hadr;clear hadr hu hu';go_in;go_wp2_with fail;rw[<-Hwb.out];go_loopw [5,10] (fun s i wr=>∃k:Nat,k<=X.length∧i=.int .i64 k∧s=.int .i64 (sbs l (X.take k):Nat)∧Ext wb wr) (fun _ i _=>X.length - (intOf i).toNat);case atStart=>exact⟨0,om,rfl,rfl,hE⟩
 case round =>
  clear hE;obtain⟨k,hk,rfl,rfl,hE⟩:=hrel;by_cases hlt:k<X.length
  . have hx:=hX.out _ (o6 hlt);have hs:=ba6 Hgr.out (X.take k) fun y hy=>hX.out y (List.mem_of_mem_take hy);have Ht:=zh (ci6 l (X.take k) (d8 X k));have Ht2:=zh (I8 X k hlt);obtain⟨S,hS⟩:=nq (sbs l (X.take k));rw[<-hS] at hs Ht ⊢;have hsh:=G0 Hgr.out S (d8 X k);have h1:=p6 (n:=d8 X k) om;have h2:ior (S:Int) (j6 l S (d8 X k):Int)=((S ||| j6 l S (d8 X k):Nat):Int):=M4 om om;have h3:=F6 (Nat.or_lt_two_pow hs hsh) hx;have cS:=fun W (hW:Ext wr W)=>H9 v l S (d8 X k) W (hg _ (hE.trans hW)) Hgr hs hx;have hck:=fun U=>hcell k _ hlt (hE.trans (d5 wr U));have hck0:=hcell k wr hlt hE;have hbx:=fun U=>hb _ (hE.trans (d5 wr U));have hE1:=hE;clear hE hS hsh;have hE:=er wr;go_wp2_with fail;(refine wl hE ?_);(repeat (go_big_quiet_step (first | (go_at_call 220;exact Calls.lat (cS _ (d5 wr _))))));(refine zd ?_);(clear hE);(intro W hE);replace hE:=hE1.trans hE;go_wp2_with fail;exact zz32
  . exact zz61
theorem b47(v u:Value)(l:List Int)(X:List Nat)(w:World)(h:c9 w v l)(hu:c9 w u (b9 X))(Hgr:Hid (j1 l=true))(hX:Hid (∀x∈X,x<24)) :
 Calls Tryz.prog 135 #[.agg #[v],u] w fun e w'=>e=.returned (.int .i64 (sbs l X:Nat))∧Ext w w':=by
 obtain⟨wb,Hwb,hE0,hb,hg,hE,Hsz⟩:=ju3 28 h;clear h;have hu':=hu.ext hE0;have hlen:X.length<=17592186044416:=by obtain⟨_,_,_,_,h',_⟩:=hu;simpa[j2] using h'
 obtain⟨ao,c,adr,rfl,hadr,hcell⟩:=hu'.nats;have hix:=j3 (c:=c) elI szI hadr;clear hadr hu hu';go_in;go_wp2_with fail;rw[<-Hwb.out];go_loopw [5,6] (fun s i wr=>∃k:Nat,k<=X.length∧i=.int .i64 k∧s=.int .i64 (sbs l (X.take k):Nat)∧Ext wb wr) (fun _ i _=>X.length - (intOf i).toNat);case atStart=>exact⟨0,om,rfl,rfl,hE⟩
 case round =>
  clear hE;obtain⟨k,hk,rfl,rfl,hE⟩:=hrel;by_cases hlt:k<X.length
  . have hx:=hX.out _ (o6 hlt);have hs:=ba6 Hgr.out (X.take k) fun y hy=>hX.out y (List.mem_of_mem_take hy);have Ht:=zh (ci6 l (X.take k) (d8 X k));have Ht2:=zh (I8 X k hlt);obtain⟨S,hS⟩:=nq (sbs l (X.take k));rw[<-hS] at hs Ht ⊢;have hsh:=G0 Hgr.out S (d8 X k);have h1:=p6 (n:=d8 X k) om;have h2:ior (S:Int) (j6 l S (d8 X k):Int)=((S ||| j6 l S (d8 X k):Nat):Int):=M4 om om;have h3:=F6 (Nat.or_lt_two_pow hs hsh) hx;have cS:=fun W (hW:Ext wr W)=>F5 v l S (d8 X k) W (hg _ (hE.trans hW)) Hgr hs hx;have hck:=fun U=>hcell k _ hlt (hE.trans (d5 wr U));have hck0:=hcell k wr hlt hE;have hbx:=fun U=>hb _ (hE.trans (d5 wr U));have hE1:=hE;clear hE hS hsh;have hE:=er wr;go_wp2_with fail;(refine wl hE ?_);(repeat (go_big_quiet_step (first | (go_at_call 166;exact Calls.lat (cS _ (d5 wr _))))));(refine zd ?_);(clear hE);(intro W hE);replace hE:=hE1.trans hE;go_wp2_with fail;exact zz32
  . exact zz61
theorem zz41{P:Prop}(h:P:=by go_in;go_wp2_with fail;rw[<-Hwb.out];refine (cS _ hE).mono ?_;rintro e w1 ⟨rfl,hE1⟩;go_wp2_with fail;go_ret;exact⟨j5 Hs.out.symm,hE0.trans hE1⟩):P:=h
theorem zz78{P:Prop}(h:P:=by clear hX hgr;go_in;go_wp2_with fail;rw[<-Hwb.out];refine (cS _ hE).mono ?_;rintro e w1 ⟨rfl,hE1⟩;have hb1:=hb w1 hE1;go_wp2_with fail;refine (cT _ hE1).mono ?_;rintro e w2 ⟨rfl,hE2⟩;go_wp2_with fail;go_ret;exact⟨j5 Hs.out.symm,hE0.trans (hE1.trans hE2)⟩):P:=h
theorem be5(v u:Value)(l xs:List Int)(w:World)(h:c9 w v l)(hu:c9 w u xs) :
 Calls Tryz.prog 238 #[.agg #[v],u] w fun e w'=>e=.returned (.bool (zsB l xs))∧Ext w w':=by
 obtain⟨wb,Hwb,hE0,hb,hg,hE,Hsz⟩:=ju3 28 h;clear h;have hbx:=hb wb hE;have HU:=zh (fun W (hW:Ext wb W)=>hu.ext (hE0.trans hW));cases hs:D2 l xs
 . have Hs:=zh (cp8 hs);have cS:=fun W (hW:Ext wb W)=>E5 v u l xs W (hg _ hW) (HU.out _ hW) hs;exact zz41
 . have cS:=fun W (hW:Ext wb W)=>E5 v u l xs W (hg _ hW) (HU.out _ hW) hs;obtain⟨X,rfl,-,-,hgr,hX⟩:=N6 hs;have Hs:=zh (cv1 hs);have cT:=fun W (hW:Ext wb W)=>b42 v u l X W (hg _ hW) (HU.out _ hW) (zh hgr) (zh hX);exact zz78
theorem bc7(v u:Value)(l xs:List Int)(w:World)(h:c9 w v l)(hu:c9 w u xs) :
 Calls Tryz.prog 137 #[.agg #[v],u] w fun e w'=>e=.returned (.bool (zsB l xs))∧Ext w w':=by
 obtain⟨wb,Hwb,hE0,hb,hg,hE,Hsz⟩:=ju3 28 h;clear h;have hbx:=hb wb hE;have HU:=zh (fun W (hW:Ext wb W)=>hu.ext (hE0.trans hW));cases hs:D2 l xs
 . have Hs:=zh (cp8 hs);have cS:=fun W (hW:Ext wb W)=>E8 v u l xs W (hg _ hW) (HU.out _ hW) hs;exact zz41
 . have cS:=fun W (hW:Ext wb W)=>E8 v u l xs W (hg _ hW) (HU.out _ hW) hs;obtain⟨X,rfl,-,-,hgr,hX⟩:=N6 hs;have Hs:=zh (cv1 hs);have cT:=fun W (hW:Ext wb W)=>Y1 v u l X W (hg _ hW) (HU.out _ hW) (zh hgr) (zh hX);exact zz78
theorem zz178{P:Prop}(h:P:=by go_ret;exact⟨j5 (by rw[Hs.out];first | exact cr1 S | rw[Nat.testBit_zero]),hE0.trans (hE1.trans hE2)⟩):P:=h
theorem cq3(v u:Value)(l xs:List Int)(w:World)(h:c9 w v l)(hu:c9 w u xs) :
 Calls Tryz.prog 132 #[.agg #[v],u] w fun e w'=>e=.returned (.bool (zfB l xs))∧Ext w w':=by
 obtain⟨wb,Hwb,hE0,hb,hg,hE,Hsz⟩:=ju3 28 h;clear h;have hbx:=hb wb hE;have HU:=zh (fun W (hW:Ext wb W)=>hu.ext (hE0.trans hW));cases hs:D2 l xs
 . have Hs:=zh (j79 hs);have cS:=fun W (hW:Ext wb W)=>E5 v u l xs W (hg _ hW) (HU.out _ hW) hs;exact zz41
 . have cS:=fun W (hW:Ext wb W)=>E5 v u l xs W (hg _ hW) (HU.out _ hW) hs;obtain⟨X,rfl,-,-,hgr,hX⟩:=N6 hs;have Hs:=zh (dt3 hs);have cT:=fun W (hW:Ext wb W)=>cc9 v u l X W (hg _ hW) (HU.out _ hW) (zh hgr) (zh hX);have hb24:=ba6 hgr X hX;obtain⟨S,hS⟩:=nq (sbs l X);rw[<-hS] at hb24 cT Hs;clear hX hgr hS;go_in;go_wp2_with fail;rw[<-Hwb.out];refine (cS _ hE).mono ?_;rintro e w1 ⟨rfl,hE1⟩;have hb1:=hb w1 hE1;go_wp2_with fail;refine (cT _ hE1).mono ?_;rintro e w2 ⟨rfl,hE2⟩;go_wp2_with (go_at_call 225;refine (db3 S 0 hb24 om _).mono ?_;rintro e w' ⟨rfl,rfl⟩);exact zz178
theorem co5(v u:Value)(l xs:List Int)(w:World)(h:c9 w v l)(hu:c9 w u xs) :
 Calls Tryz.prog 140 #[.agg #[v],u] w fun e w'=>e=.returned (.bool (zfB l xs))∧Ext w w':=by
 obtain⟨wb,Hwb,hE0,hb,hg,hE,Hsz⟩:=ju3 28 h;clear h;have hbx:=hb wb hE;have HU:=zh (fun W (hW:Ext wb W)=>hu.ext (hE0.trans hW));cases hs:D2 l xs
 . have Hs:=zh (j79 hs);have cS:=fun W (hW:Ext wb W)=>E8 v u l xs W (hg _ hW) (HU.out _ hW) hs;exact zz41
 . have cS:=fun W (hW:Ext wb W)=>E8 v u l xs W (hg _ hW) (HU.out _ hW) hs;obtain⟨X,rfl,-,-,hgr,hX⟩:=N6 hs;have Hs:=zh (dt3 hs);have cT:=fun W (hW:Ext wb W)=>b47 v u l X W (hg _ hW) (HU.out _ hW) (zh hgr) (zh hX);have hb24:=ba6 hgr X hX;obtain⟨S,hS⟩:=nq (sbs l X);rw[<-hS] at hb24 cT Hs;clear hX hgr hS;go_in;go_wp2_with fail;rw[<-Hwb.out];refine (cS _ hE).mono ?_;rintro e w1 ⟨rfl,hE1⟩;have hb1:=hb w1 hE1;go_wp2_with fail;refine (cT _ hE1).mono ?_;rintro e w2 ⟨rfl,hE2⟩;have h1:=Q6 (a:=S) om;go_wp2_with fail;exact zz178
def pcB(X:List Nat)(i:Nat):ByteArray:=if 1<bw9 (b9 X) (d8 X i) then (o3 (d8 X i)++(⟨#[94]⟩:ByteArray))++o3 (bw9 (b9 X) (d8 X i):Nat) else o3 (d8 X i)
def fqL(X:List Nat):Nat->List ByteArray
 | 0=>[]
 | k+1=>if 0<k∧d8 X (k - 1)=d8 X k then fqL X k else fqL X k++[pcB X k]
theorem da0{X:List Nat}{k:Nat}(h0:0<k)(h:d8 X (k - 1)=d8 X k):fqL X (k+1)=fqL X k:=by
 conv=>lhs;unfold fqL
 rw[if_pos ⟨h0,h⟩]
theorem cr9{X:List Nat}{k:Nat}(h:¬(0<k∧d8 X (k - 1)=d8 X k)):fqL X (k+1)=fqL X k++[pcB X k]:=by
 conv=>lhs;unfold fqL
 rw[if_neg h]
theorem bb3(X:List Nat):∀k,(fqL X k).length<=k
 | 0=>Nat.le_refl _
 | k+1=>by
  have:=bb3 X k
  unfold fqL;split
  . omega
  . simp;omega
theorem dd2{X:List Nat}(hX:X.length<=1000)(x:Int) : -1<=((bw9 (b9 X) x:Nat):Int)∧((bw9 (b9 X) x:Nat):Int)<1000000000000:=by
 have:=bx0 (b9 X) x (b9 X).length;rw[j2] at this;unfold bw9;rw[j2];omega
theorem jd8{X:List Nat}(hX:X.length<=1000)(h24:∀x∈X,x<24){i:Nat}(hi:i<X.length):(pcB X i).size<=27:=by
 have h1:=h24 _ (o6 hi);have h2:=o9 (n:=(d8 X i:Int)) om;have h3:=o9 (dd2 hX (d8 X i));unfold pcB;split
 . rw[ByteArray.size_append,ByteArray.size_append];have:(⟨#[94]⟩:ByteArray).size=1:=rfl;omega
 . omega
theorem bb4{X:List Nat}(hX:X.length<=1000)(h24:∀x∈X,x<24):∀k,k<=X.length->∀b∈fqL X k,b.size<=27
 | 0,_,b,hb=>by cases hb
 | k+1,hk,b,hb=>by
  have ih:=bb4 hX h24 k om
  unfold fqL at hb
  split at hb
  . exact ih b hb
  . rw[List.mem_append,List.mem_singleton] at hb
    rcases hb with hb | rfl
    . exact ih b hb
    . exact jd8 hX h24 om
def sp1:ByteArray:=⟨#[32]⟩
def fqF(l xs:List Int):ByteArray:=if D2 l xs then (if xs.length=0 then ⟨#[110,111,110,101]⟩ else jn sp1 (C0 (fqL (xs.map Int.toNat) xs.length)) (fqL (xs.map Int.toNat) xs.length).length) else ⟨#[]⟩
theorem c22{l xs:List Int}(h:D2 l xs=false):fqF l xs=⟨#[]⟩:=by unfold fqF;rw[h];rfl
theorem bi7{l xs:List Int}(h:D2 l xs=true)(h0:xs.length=0):fqF l xs=⟨#[110,111,110,101]⟩:=by unfold fqF;rw[h,if_pos rfl,if_pos h0]
theorem bq9{l:List Int}{X:List Nat}(h:D2 l (b9 X)=true)(h0:¬X.length=0):fqF l (b9 X)=jn sp1 (C0 (fqL X X.length)) (fqL X X.length).length:=by
 unfold fqF;rw[h,if_pos rfl,j2,if_neg h0,bw7]
theorem zz21{P:Prop}(h:P:=by have hgI:(1:Int)<(M:Int):=(by omega);have Hp:Hid (pcB X k=(o3 (x:Int)++(⟨#[94]⟩:ByteArray))++o3 (M:Int)):=zh (by unfold pcB;rw[<-hx,<-hM,if_pos hgt]);clear hx hM hsame hgt;go_wp2_with (first | (go_at_call 98;with_reducible refine (cI _).mono ?_;rintro e2 w2 ⟨rfl,hE2⟩;have hE2b:=hEr.trans hE2) | (go_at_call 233;refine (cM _ hE2b).mono ?_;rintro e' w' ⟨rfl,rfl⟩) | (go_at_call 98;with_reducible refine (cJ _).mono ?_;rintro e3 w3 ⟨rfl,hE3⟩;have hE23:=hE2.trans hE3) | (at_builtin;refine Z3 rfl _ _ rfl w1 _ _ _ _ (hO.ext hE23) (hF.trans hE23) hln rfl rfl ?_;intro v1 w4 hO1 hE4));go_roundw;(case rel=>exact⟨k+1,om,zg,by rw[Hn.out,Hp.out];exact hO1,hE4⟩);case measure=>exact zm1):P:=h
theorem zz27{P:Prop}(h:P:=by have hgI:¬(1:Int)<(M:Int):=(by omega);have Hp:Hid (pcB X k=o3 (x:Int)):=zh (by unfold pcB;rw[<-hx,<-hM,if_neg hgt]);clear hx hM hsame hgt;go_wp2_with (first | (go_at_call 98;with_reducible refine (cI _).mono ?_;rintro e2 w2 ⟨rfl,hE2⟩;have hE2b:=hEr.trans hE2) | (go_at_call 233;refine (cM _ hE2b).mono ?_;rintro e' w' ⟨rfl,rfl⟩) | (at_builtin;refine Z3 rfl _ _ rfl w1 _ _ _ _ (hO.ext hE2) (hF.trans hE2) hln rfl rfl ?_;intro v1 w4 hO1 hE4));go_roundw;(case rel=>exact⟨k+1,om,zg,by rw[Hn.out,Hp.out];exact hO1,hE4⟩);case measure=>exact zm1):P:=h
theorem zz44{P:Prop}(h:P:=by rintro e w1 ⟨rfl,hE1⟩;go_wp2_with fail;go_ret;exact⟨j9 Hs.out.symm,hE0.trans hE1⟩):P:=h
theorem bd9(v u:Value)(l xs:List Int)(w:World)(h:c9 w v l)(hu:c9 w u xs) :
 Calls Tryz.prog 125 #[.agg #[v],u] w fun e w'=>e=.returned (.string (fqF l xs))∧Ext w w':=by
 obtain⟨wb,Hwb,hE0,hb,hg,hE,Hsz⟩:=ju3 28 h;clear h;have hbx:=hb wb hE;have HU:=zh (fun W (hW:Ext wb W)=>hu.ext (hE0.trans hW));cases hs:D2 l xs
 . have Hs:=zh (c22 hs);have cS:=fun W (hW:Ext wb W)=>E5 v u l xs W (hg _ hW) (HU.out _ hW) hs;go_in;go_wp2_with fail;rw[<-Hwb.out];refine (cS _ hE).mono ?_;exact zz44
 have cS:=fun W (hW:Ext wb W)=>E5 v u l xs W (hg _ hW) (HU.out _ hW) hs;obtain⟨X,rfl,-,hX12,hgr,hX⟩:=N6 hs;have hu2:=hu.ext hE0;obtain⟨ao,c,adr,rfl,hadr,hcell⟩:=hu2.nats;have hix:=j3 (c:=c) elI szI hadr;by_cases h0:X.length=0
 . have Hs:=zh (bi7 hs (by rw[j2];exact h0));have h00:(((X.length:Nat):Int) == 0)=true:=(by rw[h0];rfl);clear h0 hX hcell hix hadr;go_in;go_wp2_with fail;rw[<-Hwb.out];refine (cS _ hE).mono ?_;exact zz44
 have Hs:=zh (bq9 hs h0);have h00:(((X.length:Nat):Int) == 0)=false:=by rw[beq_eq_false_iff_ne];omega
 have Hsz:=zh (bb4 (X:=X) om hX X.length (Nat.le_refl _));have HcX:=zh hcell;have HX:=zh hX;clear hadr hcell h0 hs hgr hu hX;go_in;go_wp2_with fail;rw[<-Hwb.out];refine (cS _ hE).mono ?_;rintro e w1 ⟨rfl,hE1⟩;have hO0:=bn3 (er w1);have hEO:=(er w1).alloc (.cells #[] 9);go_wp2_with fail;go_loopw [5,20] (fun ov iv wr=>∃k:Nat,k<=X.length∧iv=.int .i64 k∧Y8 w1 wr ov (fqL X k)∧Ext w1 wr) (fun _ iv _=>X.length - (intOf iv).toNat);case atStart=>exact⟨0,om,rfl,hO0,hEO⟩
 case round =>
  clear hO0 hEO;obtain⟨k,hk,rfl,hO,hF⟩:=hrel;have hEr:=hE1.trans hF;by_cases hlt:k<X.length
  . have hx24:=HX.out _ (o6 hlt);have hck:=HcX.out k wr hlt hEr;by_cases hsame:0<k∧d8 X (k - 1)=d8 X k
    . have Hn:=zh (da0 hsame.1 hsame.2);have hk0:(0:Int)<(k:Int):=om;have ix1:∀W,(Instr.indexAt 26 (.slice ao X.length c) (.int .i64 ((k:Int) - 1))).run Tryz.prog W=.ok (.pointer (some (adr (k - 1)))) W:=fun W=>(by rw[show ((k:Int) - 1)=((k - 1:Nat):Int) by omega];exact hix _ W om);have hck1:wr.cell? (adr (k - 1))=some (.int .i64 (d8 X k:Int)):=(by rw[<-hsame.2];exact HcX.out (k - 1) wr om hEr);clear hsame;go_wp2_with fail;go_roundw;(case rel=>exact⟨k+1,om,zg,by rw[Hn.out];exact hO,hF⟩);case measure=>exact zm1
    . have Hn:=zh (cr9 hsame);have hfl:=bb3 X k;have hln:(fqL X k).length<1000000:=om;obtain⟨x,hx⟩:=nq (d8 X k);rw[<-hx] at hck hx24;have cI:=fun W=>A4 (x:Int) om W;have cM:=fun W (hW:Ext wb W)=>c03 (.slice ao X.length c) (b9 X) (x:Int) W (HU.out _ hW);have hmi:=dd2 (X:=X) om (x:Int);obtain⟨M,hM⟩:∃M,M=bw9 (b9 X) (x:Int):=⟨_,rfl⟩;rw[<-hM] at cM hmi;have cJ:=fun W=>A4 (M:Int) hmi W;have hs1:=o9 (n:=(x:Int)) om;have hs2:=o9 hmi;by_cases hk0:0<k
      . have hkI:(0:Int)<(k:Int):=(by omega);have ix1:∀W,(Instr.indexAt 26 (.slice ao X.length c) (.int .i64 ((k:Int) - 1))).run Tryz.prog W=.ok (.pointer (some (adr (k - 1)))) W:=fun W=>(by rw[show ((k:Int) - 1)=((k - 1:Nat):Int) by omega];exact hix _ W om);have hck1:=HcX.out (k - 1) wr om hEr;have hne:(((d8 X (k - 1):Nat):Int) == (x:Int))=false:=by
         rw[beq_eq_false_iff_ne,hx];intro e;exact hsame ⟨hk0,om⟩
        by_cases hgt:1<M
        . exact zz21
        . exact zz27
      . have hkI:¬(0:Int)<(k:Int):=(by omega);by_cases hgt:1<M
        . exact zz21
        . exact zz27
  . have hkl:k=X.length:=(by omega);have hS:=(show Y8 w1 wr _ (fqL X X.length) by rw[<-hkl];exact hO).strs;have hfl:=bb3 X X.length;have hc:=cx4 _ (fqL X X.length) sp1 wr hS (by decide) (fun i hi=>by
     have:=Hsz.out (C0 (fqL X X.length) i) (by
      have:C0 (fqL X X.length) i=(fqL X X.length)[i]:=(by simp[C0,List.getD,hi]);rw[this];exact List.getElem_mem hi)
     omega) om
    clear hkl;go_wp2_with (refine hc.mono ?_;rintro e w2 ⟨rfl,rfl⟩);go_ret;exact⟨j9 Hs.out.symm,hE0.trans hEr⟩
def fsF(l:List Int)(a:Int):ByteArray:=if j4 l a then F7 (b9 (j7 a.toNat)) else ⟨#[]⟩
theorem br1{l:List Int}{a:Int}(h:j4 l a=false):fsF l a=⟨#[]⟩:=by unfold fsF;rw[h];rfl
theorem br0{l:List Int}{n:Nat}(h:j4 l n=true):fsF l n=F7 (b9 (j7 n)):=by unfold fsF;rw[h];rfl
theorem b66(n i:Nat)(h:i<(b9 (j7 n)).length) : -1<=nth (b9 (j7 n)) i∧nth (b9 (j7 n)) i<1000000000000:=by
 rw[j2] at h;have e:nth (b9 (j7 n)) i=((j7 n)[i]:Int):=by simp[nth,b9,List.getD,h]
 have:=I9 (List.getElem_mem h);rw[e];omega
theorem K7(v:Value)(l:List Int)(a:Int)(w:World)(h:c9 w v l) :
 Calls Tryz.prog 106 #[.agg #[v],.int .i64 a] w fun e w'=>e=.returned (.string (fsF l a))∧Ext w w':=by
 have hE0:=(er w).alloc (.cells #[v] 28);have hE:=er (w.alloc (.cells #[v] 28));have hb:=j0 w v 28;have hg:∀W,Ext (w.alloc (.cells #[v] 28)) W->c9 W v l:=fun W hW=>h.ext (hE0.trans hW);clear h;cases hs:j4 l a
 . have He:=zh (br1 hs);go_in;go_wp2_with (first | (go_at_call 105;refine cx (I6 _ _ _ _ (hg _ hE)) hE ?_;clear hE;intro w' hE));go_ret;exact⟨j9 He.out.symm,hE0.trans hE⟩
 . obtain⟨n,rfl,-,hn,-⟩:=o4 hs;have He:=zh (br0 hs);have hc:=fun v W (hI:c9 W v (b9 (j7 n)))=>dk6 v (b9 (j7 n)) W hI (b66 n) (by rw[j2];have:=B7 n;omega);go_in;go_wp2_with (first | (go_at_call 105;refine cx (I6 _ _ _ _ (hg _ hE)) hE ?_;clear hE;intro w' hE) | (go_at_call 214;refine (I5 _ (hn) _).mono ?_;rintro e w1 ⟨v1,rfl,hL,hE1⟩;obtain⟨aoL,cL,adrL,rfl,hadrL,hcellL⟩:=hL.ints.nats;have hixL:=j3 (c:=cL) elI szI hadrL;clear hadrL) | (go_at_call 110;refine (hc _ _ hL.ints).mono ?_;rintro e w2 ⟨rfl,hE2⟩));go_ret;exact⟨j9 He.out.symm,((hE0.trans hE).trans hE1).trans hE2⟩
def loF(l:List Int)(a:Int):List Int:=if j4 l a then b9 (j7 a.toNat) else []
theorem dc7{l:List Int}{a:Int}(h:j4 l a=false):loF l a=[]:=by unfold loF;rw[h];rfl
theorem dq9{l:List Int}{n:Nat}(h:j4 l n=true):loF l n=b9 (j7 n):=by unfold loF;rw[h];rfl
theorem dl4(v:Value)(l:List Int)(a:Int)(w:World)(h:c9 w v l) :
 Calls Tryz.prog 44 #[.agg #[v],.int .i64 a] w fun e w'=>∃u,e=.returned u∧Own 3 w w' u (loF l a)∧Ext w w':=by
 have hE0:=(er w).alloc (.cells #[v] 28);have hE:=er (w.alloc (.cells #[v] 28));have hb:=j0 w v 28;have hg:∀W,Ext (w.alloc (.cells #[v] 28)) W->c9 W v l:=fun W hW=>h.ext (hE0.trans hW);clear h;cases hs:j4 l a
 . have He:=zh (dc7 hs);go_in;go_wp2_with (first | (go_at_call 46;refine cx (R1 _ _ _ _ (hg _ hE)) hE ?_;clear hE;intro w' hE));go_ret;have hE2:=hE0.trans hE;exact⟨_,rfl,by rw[He.out];exact m7 (TI:=3) (n:=0) om hE2 [] rfl,hE2.alloc _⟩
 . obtain⟨n,rfl,-,hn,-⟩:=o4 hs;have He:=zh (dq9 hs);go_in;go_wp2_with (first | (go_at_call 46;refine cx (R1 _ _ _ _ (hg _ hE)) hE ?_;clear hE;intro w' hE) | (go_at_call 165;refine (M6 _ (hn) _).mono ?_;rintro e w1 ⟨v1,rfl,hL,hE1⟩;obtain⟨aoL,cL,adrL,rfl,hadrL,hcellL⟩:=hL.ints.nats;have hixL:=j3 (c:=cL) elI szI hadrL;clear hadrL));go_ret;have hE2:=hE0.trans hE;exact⟨_,rfl,by rw[He.out];simpa[j2] using hL.mono hE2,hE2.trans hE1⟩
theorem jq8(l:List Int)(a:Int)(i:Nat)(h:i<(loF l a).length) : -1<=nth (loF l a) i∧nth (loF l a) i<1000000000000:=by
 cases hs:j4 l a
 . rw[dc7 hs] at h;simp at h
 . obtain⟨n,rfl,-,hn,-⟩:=o4 hs;rw[dq9 hs] at h ⊢;exact b66 n i h
theorem jl8(l:List Int)(a:Int):(loF l a).length<=24:=by
 unfold loF;split
 . rw[j2];exact B7 _
 . simp
theorem jq1(l:List Int)(a:Int):fsF l a=if (loF l a).length=0 then (if j4 l a then ⟨#[110,111,110,101]⟩ else ⟨#[]⟩) else jn b44 (fun i=>o3 (nth (loF l a) i)) (loF l a).length:=by
 cases hs:j4 l a
 . rw[br1 hs,dc7 hs];rfl
 . unfold fsF loF;rw[hs];show F7 _=_;unfold F7;rfl
theorem zz50{P:Prop}(h:P:=by have hk1:k=0:=(by omega);subst hk1;have hix0:∀W,(Instr.indexAt 26 (.slice aoL m.length cL) (.int .i64 0)).run Tryz.prog W=.ok (.pointer (some (adrL 0))) W:=fun W=>(by simpa using hixL 0 W hlt);go_wp2_with (refine (hcF _).mono ?_;rintro e w2 ⟨rfl,hE2⟩);go_roundw;(case rel=>exact⟨1,_,om,rfl,rfl,zh (by rw[b69,He.out,Ht.out];rfl),hEr.trans hE2⟩);case measure=>exact zm1):P:=h
theorem zz92{P:Prop}(h:P:=by have hk1:(0:Int)<k:=(by omega);go_wp2_with (refine (hcF _).mono ?_;rintro e w2 ⟨rfl,hE2⟩);go_roundw;(case rel=>exact⟨k+1,_,om,zg,rfl,zh (by rw[b80 _ _ hk0,<-Ht.out,He.out];rfl),hEr.trans hE2⟩);case measure=>exact zm1):P:=h
theorem M8(v:Value)(l:List Int)(a:Int)(w:World)(h:c9 w v l) :
 Calls Tryz.prog 11 #[.agg #[v],.int .i64 a] w fun e w'=>e=.returned (.string (fsF l a))∧Ext w w':=by
 have hE0:=(er w).alloc (.cells #[v] 28);have hE:=er (w.alloc (.cells #[v] 28));have hb:=j0 w v 28;have hg:∀W,Ext (w.alloc (.cells #[v] 28)) W->c9 W v l:=fun W hW=>h.ext (hE0.trans hW);clear h;have hin:=jq8 l a;have hlen:=jl8 l a;have Hf:=zh (jq1 l a);have Hin:=zh hin;clear hin;have hc:=fun W (hI:c9 W v l)=>dl4 v l a W hI;go_in;go_wp2_with (go_at_call 44;refine (hc _ (hg _ hE)).mono ?_;rintro e w1 ⟨u,rfl,hO,hE1⟩;obtain⟨aoL,cL,adrL,rfl,hlenL,hadrL,hcellL⟩:=hO.ints.op;have hixL:=j3 (c:=cL) elI szI hadrL);clear hadrL hO;obtain⟨m,hm⟩:=nq (loF l a);rw[<-hm] at hlen hlenL hcellL hixL Hf Hin ⊢;clear hm;go_loopw [5,7] (fun s i wr=>∃(k:Nat) (t:ByteArray),k<=m.length∧i=.int .i64 k∧s=.string t∧Hid (t=jn b44 (fun i=>o3 (nth m i)) k)∧Ext w1 wr) (fun _ i _=>m.length - (intOf i).toNat);case atStart=>exact⟨0,_,om,rfl,rfl,zh rfl,er _⟩
 case round =>
  obtain⟨k,t,hk,rfl,rfl,Ht,hEr⟩:=hrel;have hts:t.size<=14*k:=by rw[Ht.out];exact b81 _ _ (by decide) k fun i hi=>o9 (Hin.out i om)
  by_cases hlt:k<m.length
  . have hck:=hcellL k _ hlt hEr;have hcF:=A2 (nth m k) (Hin.out k hlt);have hsz:(o3 (nth m k)).size<=13:=o9 (Hin.out k hlt);obtain⟨u,hu⟩:=nq (o3 (nth m k));rw[<-hu] at hsz hcF;have He:=zh hu;clear hu;by_cases hk0:0<k
    . exact zz92
    . exact zz50
  . have hkl:k=m.length:=(by omega);subst hkl;have hER:=(hE0.trans hE1).trans hEr;have hEb:=hE1.trans hEr;by_cases h0:m.length=0
    . have ht0:t=⟨#[]⟩:=(by rw[Ht.out,h0];rfl);subst ht0;have Hf2:Hid (fsF l a=if j4 l a then ⟨#[110,111,110,101]⟩ else ⟨#[]⟩):=zh (by rw[Hf.out,if_pos h0]);have hcS:=R1 v l a _ (hg _ hEb);clear h0 hts Hf;cases hs:j4 l a;all_goals
       rw[hs] at Hf2 hcS
       go_wp2_with (refine hcS.mono ?_;rintro e w3 ⟨rfl,hE3⟩)
       go_ret
       exact⟨j9 Hf2.out.symm,hER.trans hE3⟩
    . have He:Hid (fsF l a=t):=zh (by rw[Hf.out,if_neg h0,Ht.out]);have h1:=br5 b44 (fun i=>o3 (nth m i)) m.length om fun i hi=>c21 (Hin.out i hi);rw[<-Ht.out] at h1;have ht1:=bk5 h1;go_wp2_with fail;go_ret;exact⟨j9 He.out.symm,hER⟩
theorem jd0(L:List ByteArray)(p:ByteArray){i:Nat}(hi:i<L.length):C0 (L++[p]) i=C0 L i:=by
 simp[C0,List.getD,List.getElem?_append_left hi]
theorem j32(L:List ByteArray)(p:ByteArray):C0 (L++[p]) L.length=p:=by simp[C0,List.getD]
theorem j20(s:ByteArray)(L:List ByteArray)(p:ByteArray)(h:0<L.length):jn s (C0 (L++[p])) (L++[p]).length=(jn s (C0 L) L.length++s)++p:=by
 rw[List.length_append,List.length_singleton,b80 _ _ h,j32,bw5 s _ (C0 L) L.length fun i hi=>jd0 L p hi]
theorem j21(s:ByteArray)(L:List ByteArray)(p:ByteArray)(h:L.length=0):jn s (C0 (L++[p])) (L++[p]).length=jn s (C0 L) L.length++p:=by
 have hL:L=[]:=List.eq_nil_of_length_eq_zero h;subst hL;rfl
theorem cs1{X:List Nat}:∀k,0<k->0<(fqL X k).length
 | 0,h=>by omega
 | k+1,_=>by
  unfold fqL
  split
  . next h=>exact cs1 k h.1
  . simp
theorem jd9{X:List Nat}(h24:∀x∈X,x<24){i:Nat}(hi:i<X.length):1<=(pcB X i).size:=by
 have h1:=h24 _ (o6 hi);have h2:=c21 (n:=(d8 X i:Int)) om;unfold pcB;split
 . rw[ByteArray.size_append,ByteArray.size_append];omega
 . exact h2
theorem da1{X:List Nat}(h24:∀x∈X,x<24):∀k,k<=X.length->∀b∈fqL X k,1<=b.size
 | 0,_,b,hb=>by cases hb
 | k+1,hk,b,hb=>by
  have ih:=da1 h24 k om
  unfold fqL at hb
  split at hb
  . exact ih b hb
  . rw[List.mem_append,List.mem_singleton] at hb
    rcases hb with hb | rfl
    . exact ih b hb
    . exact jd9 h24 om
theorem bc1{L:List ByteArray}{i:Nat}(h:i<L.length):C0 L i∈L:=by
 have:C0 L i=L[i]:=by simp[C0,List.getD,h]
 rw[this];exact List.getElem_mem h
theorem ba9(v u:Value)(l xs:List Int)(w:World)(h:c9 w v l)(hu:c9 w u xs) :
 Calls Tryz.prog 65 #[.agg #[v],u] w fun e w'=>e=.returned (.string (fqF l xs))∧Ext w w':=by
 obtain⟨wb,Hwb,hE0,hb,hg,hE,Hsz⟩:=ju3 28 h;clear h;have HU:=zh (fun W (hW:Ext wb W)=>hu.ext (hE0.trans hW));cases hs:D2 l xs
 . have Hs:=zh (c22 hs);have cS:=fun W (hW:Ext wb W)=>E8 v u l xs W (hg _ hW) (HU.out _ hW) hs;have hb0:=hb wb hE;obtain⟨ao,c,adr,rfl,hlen,-,-⟩:=hu.op;clear hs hu;go_in;go_wp2_with fail;rw[<-Hwb.out];go_loopw [5,6] (fun sv iv wr=>sv=.string ⟨#[]⟩∧iv=.int .i64 0∧Ext wb wr) (fun _ _ _=>0);(case atStart=>exact⟨rfl,rfl,hE⟩);case round =>
    obtain⟨rfl,rfl,hEr⟩:=hrel;have hemp:(⟨#[]⟩:ByteArray).toList.isEmpty=true:=(by rw[ByteArray.toList_eq];rfl);have hbr:=hb _ hEr;by_cases hq:(0:Int)<(xs.length:Int)
    ·
       have hEs:=hEr
       clear hEr
       go_wp2_with (go_at_call 133;refine (cS _ hEs).mono ?_;rintro e' w' ⟨rfl,hE'⟩;replace hEs:=hEs.trans hE';clear hE')
       go_ret
       exact⟨j9 Hs.out.symm,hE0.trans hEs⟩
    ·
       have hEs:=hEr
       clear hEr
       go_wp2_with (go_at_call 133;refine (cS _ hEs).mono ?_;rintro e' w' ⟨rfl,hE'⟩;replace hEs:=hEs.trans hE';clear hE')
       go_ret
       exact⟨j9 Hs.out.symm,hE0.trans hEs⟩
 have cS:=fun W (hW:Ext wb W)=>E8 v u l xs W (hg _ hW) (HU.out _ hW) hs;obtain⟨X,rfl,-,hX12,hgr,hX⟩:=N6 hs;have hu2:=hu.ext hE0;obtain⟨ao,c,adr,rfl,hadr,hcell⟩:=hu2.nats;have hix:=j3 (c:=c) elI szI hadr;have HcX:=zh hcell;have HX:=zh hX;have Hhs:=zh hs;have Hsz:=zh (bb4 (X:=X) om hX);have Hso:=zh (da1 (X:=X) hX);clear hadr hcell hs hgr hu hX;go_in;go_wp2_with fail;rw[<-Hwb.out];go_loopw [5,6] (fun sv iv wr=>∃(k:Nat) (st:ByteArray),k<=X.length∧iv=.int .i64 k∧sv=.string st∧Hid (st=jn sp1 (C0 (fqL X k)) (fqL X k).length)∧Ext wb wr) (fun _ iv _=>X.length - (intOf iv).toNat);case atStart=>exact⟨0,_,om,rfl,rfl,zh rfl,hE⟩
 case round =>
  clear hE;obtain⟨k,st,hk,rfl,rfl,Hst,hEr⟩:=hrel;have hbr:=hb _ hEr;have hfl:=bb3 X k;have hstS:st.size<=60012:=by
   rw[Hst.out];have:=cf8 sp1 (C0 (fqL X k)) (by decide) (fqL X k).length (fun i hi=>by have:=Hsz.out k hk _ (bc1 hi);omega);omega
  by_cases hlt:k<X.length
  . have hx24:=HX.out _ (o6 hlt);have hck:=HcX.out k wr hlt hEr;obtain⟨x,hx⟩:=nq (d8 X k);have Hx:=zh hx;rw[<-hx] at hck hx24;have cI:=fun W=>A2 (x:Int) om W;have cM:=fun W (hW:Ext wb W)=>bz5 (.slice ao X.length c) (b9 X) (x:Int) W (HU.out _ hW);have hmi:=dd2 (X:=X) om (x:Int);obtain⟨M,hM⟩:∃M,M=bw9 (b9 X) (x:Int):=⟨_,rfl⟩;rw[<-hM] at cM hmi;have cJ:=fun W=>A2 (M:Int) hmi W;have hs1:=o9 (n:=(x:Int)) om;have hs2:=o9 hmi;by_cases hk0:0<k
    . have hkI:(0:Int)<(k:Int):=(by omega);have hL1:=cs1 (X:=X) k hk0;have hemp:st.toList.isEmpty=false:=by
       rw[Hst.out];exact bk5 (br5 _ _ _ hL1 fun i hi=>Hso.out k hk _ (bc1 hi))
      have ix1:∀W,(Instr.indexAt 26 (.slice ao X.length c) (.int .i64 ((k:Int) - 1))).run Tryz.prog W=.ok (.pointer (some (adr (k - 1)))) W:=fun W=>(by rw[show ((k:Int) - 1)=((k - 1:Nat):Int) by omega];exact hix _ W om);by_cases hsame:0<k∧d8 X (k - 1)=d8 X k
      . have Hn:=zh (da0 hsame.1 hsame.2);have Hq:=zh hsame.2;clear hsame hx hM;go_wp2_with (go_at_call 133;refine (cS _ hEr).mono ?_;rintro e2 w2 ⟨rfl,hE2⟩);have hE2b:=hEr.trans hE2;have hE:=er w2;have hcq:=fun U=>HcX.out k _ hlt (hE2b.trans (d5 w2 U));have hcq1:=fun U=>HcX.out (k - 1) _ om (hE2b.trans (d5 w2 U));rw[Hq.out] at hcq1;(refine wl hE ?_);(repeat (go_big_quiet_step (first | (fail "no call"))));(refine zd ?_);(clear hE);(intro W hE);go_wp2_with fail;go_roundw;(case rel=>exact⟨k+1,st,om,zg,rfl,by rw[Hn.out];exact Hst,hE2b.trans hE⟩);case measure=>exact zm1
      . have hne:((x:Int) == ((d8 X (k - 1):Nat):Int))=false:=by
         rw[beq_eq_false_iff_ne,hx];intro e;exact hsame ⟨hk0,om⟩
        have Hn:=zh (cr9 hsame)
        by_cases hgt:1<M
        . have hgI:(1:Int)<(M:Int):=by omega
          have Hp:Hid (pcB X k=(o3 (x:Int)++(⟨#[94]⟩:ByteArray))++o3 (M:Int)):=zh (by unfold pcB;rw[<-hx,<-hM,if_pos hgt])
          have Hst2:Hid (((((st++(⟨#[32]⟩:ByteArray))++o3 (x:Int))++(⟨#[94]⟩:ByteArray))++o3 (M:Int))=jn sp1 (C0 (fqL X (k+1))) (fqL X (k+1)).length):=zh (by
           rw[Hn.out,Hp.out,j20 _ _ _ hL1,<-Hst.out];simp only[ByteArray.append_assoc];rfl)
          clear hx hM hsame hgt Hp Hn
          go_wp2_with (go_at_call 133;refine (cS _ hEr).mono ?_;rintro e2 w2 ⟨rfl,hE2⟩)
          have hE2b:=hEr.trans hE2
          have hE:=er w2
          have hcq:=fun U=>HcX.out k _ hlt (hE2b.trans (d5 w2 U))
          have hcq1:=fun U=>HcX.out (k - 1) _ om (hE2b.trans (d5 w2 U))
          rw[<-Hx.out] at hcq
          (refine wl hE ?_);(repeat (go_big_quiet_step (first | (fail "no call"))));(refine zd ?_);(clear hE);(intro W hE)
          have hEw:=hE2b.trans hE
          have hcW:=HcX.out k _ hlt hEw
          rw[<-Hx.out] at hcW
          go_wp2_with (first | (go_at_call 45;with_reducible refine (cI _).mono ?_;rintro e3 w3 ⟨rfl,hE3⟩;have hE3b:=hEw.trans hE3;have hcV:=HcX.out k _ hlt hE3b;rw[<-Hx.out] at hcV) | (go_at_call 184;refine (cM _ hE3b).mono ?_;rintro e' w' ⟨rfl,rfl⟩) | (go_at_call 45;with_reducible refine (cJ _).mono ?_;rintro e4 w4 ⟨rfl,hE4⟩;have hE4b:=hE3b.trans hE4))
          go_roundw
          case rel=>exact⟨k+1,_,om,zg,rfl,Hst2,hE4b⟩
          case measure=>exact zm1
        . have hgI:¬(1:Int)<(M:Int):=by omega
          have Hp:Hid (pcB X k=o3 (x:Int)):=zh (by unfold pcB;rw[<-hx,<-hM,if_neg hgt])
          have Hst2:Hid (((st++(⟨#[32]⟩:ByteArray))++o3 (x:Int))=jn sp1 (C0 (fqL X (k+1))) (fqL X (k+1)).length):=zh (by
           rw[Hn.out,Hp.out,j20 _ _ _ hL1,<-Hst.out];rfl)
          clear hx hM hsame hgt Hp Hn
          go_wp2_with (go_at_call 133;refine (cS _ hEr).mono ?_;rintro e2 w2 ⟨rfl,hE2⟩)
          have hE2b:=hEr.trans hE2
          have hE:=er w2
          have hcq:=fun U=>HcX.out k _ hlt (hE2b.trans (d5 w2 U))
          have hcq1:=fun U=>HcX.out (k - 1) _ om (hE2b.trans (d5 w2 U))
          rw[<-Hx.out] at hcq
          (refine wl hE ?_);(repeat (go_big_quiet_step (first | (fail "no call"))));(refine zd ?_);(clear hE);(intro W hE)
          have hEw:=hE2b.trans hE
          have hcW:=HcX.out k _ hlt hEw
          rw[<-Hx.out] at hcW
          go_wp2_with (first | (go_at_call 45;with_reducible refine (cI _).mono ?_;rintro e3 w3 ⟨rfl,hE3⟩;have hE3b:=hEw.trans hE3;have hcV:=HcX.out k _ hlt hE3b;rw[<-Hx.out] at hcV) | (go_at_call 184;refine (cM _ hE3b).mono ?_;rintro e' w' ⟨rfl,rfl⟩) | (go_at_call 45;with_reducible refine (cJ _).mono ?_;rintro e4 w4 ⟨rfl,hE4⟩;have hE4b:=hE3b.trans hE4))
          go_roundw
          case rel=>exact⟨k+1,_,om,zg,rfl,Hst2,hE3b⟩
          case measure=>exact zm1
    . have hkI:¬(0:Int)<(k:Int):=(by omega);have hkz:k=0:=om;have hL0:(fqL X k).length=0:=(by rw[hkz];rfl);have hemp:st.toList.isEmpty=true:=by
       rw[Hst.out,hkz,ByteArray.toList_eq];rfl
      have hsame:¬(0<k∧d8 X (k - 1)=d8 X k):=fun e=>hk0 e.1;clear hkz;have Hn:=zh (cr9 hsame);by_cases hgt:1<M
      . have hgI:(1:Int)<(M:Int):=(by omega);have Hp:Hid (pcB X k=(o3 (x:Int)++(⟨#[94]⟩:ByteArray))++o3 (M:Int)):=zh (by unfold pcB;rw[<-hx,<-hM,if_pos hgt]);have Hst2:Hid ((((st++o3 (x:Int))++(⟨#[94]⟩:ByteArray))++o3 (M:Int))=jn sp1 (C0 (fqL X (k+1))) (fqL X (k+1)).length):=zh (by
         rw[Hn.out,Hp.out,j21 _ _ _ hL0,<-Hst.out];simp only[ByteArray.append_assoc])
        clear hx hM hsame hgt Hp Hn;go_wp2_with (go_at_call 133;refine (cS _ hEr).mono ?_;rintro e2 w2 ⟨rfl,hE2⟩);have hE2b:=hEr.trans hE2;have hE:=er w2;have hcq:=fun U=>HcX.out k _ hlt (hE2b.trans (d5 w2 U));rw[<-Hx.out] at hcq;(refine wl hE ?_);(repeat (go_big_quiet_step (first | (fail "no call"))));(refine zd ?_);(clear hE);(intro W hE);have hEw:=hE2b.trans hE;have hcW:=HcX.out k _ hlt hEw;rw[<-Hx.out] at hcW;go_wp2_with (first | (go_at_call 45;with_reducible refine (cI _).mono ?_;rintro e3 w3 ⟨rfl,hE3⟩;have hE3b:=hEw.trans hE3;have hcV:=HcX.out k _ hlt hE3b;rw[<-Hx.out] at hcV) | (go_at_call 184;refine (cM _ hE3b).mono ?_;rintro e' w' ⟨rfl,rfl⟩) | (go_at_call 45;with_reducible refine (cJ _).mono ?_;rintro e4 w4 ⟨rfl,hE4⟩;have hE4b:=hE3b.trans hE4));go_roundw;(case rel=>exact⟨k+1,_,om,zg,rfl,Hst2,hE4b⟩);case measure=>exact zm1
      . have hgI:¬(1:Int)<(M:Int):=(by omega);have Hp:Hid (pcB X k=o3 (x:Int)):=zh (by unfold pcB;rw[<-hx,<-hM,if_neg hgt]);have Hst2:Hid ((st++o3 (x:Int))=jn sp1 (C0 (fqL X (k+1))) (fqL X (k+1)).length):=zh (by
         rw[Hn.out,Hp.out,j21 _ _ _ hL0,<-Hst.out])
        clear hx hM hsame hgt Hp Hn;go_wp2_with (go_at_call 133;refine (cS _ hEr).mono ?_;rintro e2 w2 ⟨rfl,hE2⟩);have hE2b:=hEr.trans hE2;have hE:=er w2;have hcq:=fun U=>HcX.out k _ hlt (hE2b.trans (d5 w2 U));rw[<-Hx.out] at hcq;(refine wl hE ?_);(repeat (go_big_quiet_step (first | (fail "no call"))));(refine zd ?_);(clear hE);(intro W hE);have hEw:=hE2b.trans hE;have hcW:=HcX.out k _ hlt hEw;rw[<-Hx.out] at hcW;go_wp2_with (first | (go_at_call 45;with_reducible refine (cI _).mono ?_;rintro e3 w3 ⟨rfl,hE3⟩;have hE3b:=hEw.trans hE3;have hcV:=HcX.out k _ hlt hE3b;rw[<-Hx.out] at hcV) | (go_at_call 184;refine (cM _ hE3b).mono ?_;rintro e' w' ⟨rfl,rfl⟩) | (go_at_call 45;with_reducible refine (cJ _).mono ?_;rintro e4 w4 ⟨rfl,hE4⟩;have hE4b:=hE3b.trans hE4));go_roundw;(case rel=>exact⟨k+1,_,om,zg,rfl,Hst2,hE3b⟩);case measure=>exact zm1
  . have hkl:k=X.length:=(by omega);have hkI:¬(k:Int)<(X.length:Int):=om;by_cases h0:X.length=0
    . have hemp:st.toList.isEmpty=true:=by
       rw[Hst.out,hkl,h0,ByteArray.toList_eq];rfl
      have Hv:Hid (fqF l (b9 X)=⟨#[110,111,110,101]⟩):=zh (bi7 Hhs.out (by rw[j2];exact h0))
      clear hkl h0 hfl
      go_wp2_with (go_at_call 133;refine (cS _ hEr).mono ?_;rintro e2 w2 ⟨rfl,hE2⟩)
      go_ret
      exact⟨j9 Hv.out.symm,hE0.trans (hEr.trans hE2)⟩
    . have hemp:st.toList.isEmpty=false:=by
       rw[Hst.out];exact bk5 (br5 _ _ _ (cs1 (X:=X) k om) fun i hi=>Hso.out k hk _ (bc1 hi))
      have Hv:Hid (fqF l (b9 X)=st):=zh (by rw[bq9 Hhs.out h0,Hst.out,hkl])
      clear hkl h0 hfl
      go_wp2_with fail
      go_ret
      exact⟨j9 Hv.out.symm,hE0.trans hEr⟩
def nxS(l:List Int)(S x:Nat):Nat:=(S ||| j6 l S x) ||| 2 ^ x
theorem bj0{l:List Int}(hg:j1 l=true){S x:Nat}(hS:S<2 ^ ord l)(hx:x<ord l):nxS l S x<2 ^ ord l :=
 Nat.or_lt_two_pow (Nat.or_lt_two_pow hS (Y5 (m9 hg) S x)) (Nat.pow_lt_pow_right om hx)
theorem b71{l:List Int}(hg:j1 l=true){S x:Nat}(hS:S<2 ^ ord l)(h0:S.testBit 0=false)(hx:x<ord l):cnt S<cnt (nxS l S x):=by
 have hob:=m8 hg;have hS24:S<2 ^ 24:=nlt hS (Nat.pow_le_pow_right om hob.2);have hT:S ||| 2 ^ 0<2 ^ ord l:=Nat.or_lt_two_pow hS (Nat.pow_lt_pow_right om om)
 have h1:=b78 hg hT x;rw[ck9 hS24 om h0] at h1;have hsub:Sub (j6 l (S ||| 2 ^ 0) x) (nxS l S x):=fun i hi=>by
  obtain⟨y,hy,hb,he⟩:=D0.1 hi
  unfold nxS
  rw[Nat.testBit_or,Nat.testBit_or]
  rw[Nat.testBit_or,Nat.testBit_two_pow] at hb
  by_cases hy0:y=0
  . subst hy0
    rw[D4,A7 l (m9 hg) x hx] at he
    subst he
    simp
  . have hSy:S.testBit y=true:=by simpa[show ¬0=y by omega] using hb
    have:(j6 l S x).testBit i=true:=D0.2 ⟨y,hy,hSy,he⟩
    rw[this];simp
 have:=ce5 hsub;omega
def zfS(l:List Int):Nat->List Nat->Nat->Nat->List Nat
 | 0,X,_,_=>X
 | f+1,X,S,m=>(List.range (ord l)).foldl (fun (b:List Nat) (x:Nat)=>if x<m then b else if (nxS l S x).testBit 0 then b else if b.length<(zfS l f (X++[x]) (nxS l S x) x).length then zfS l f (X++[x]) (nxS l S x) x else b) X
def zfK(l:List Int)(f:Nat)(X:List Nat)(S m k:Nat):List Nat:=(List.range k).foldl (fun (b:List Nat) (x:Nat)=>if x<m then b else if (nxS l S x).testBit 0 then b else if b.length<(zfS l f (X++[x]) (nxS l S x) x).length then zfS l f (X++[x]) (nxS l S x) x else b) X
theorem jp1(l:List Int)(f:Nat)(X:List Nat)(S m:Nat):zfS l (f+1) X S m=zfK l f X S m (ord l):=rfl
theorem zz183{P:Prop}(h:P:=by rw[List.range_succ,List.foldl_append,ih om];simp only[List.foldl_cons,List.foldl_nil];rw[if_pos om]):P:=h
theorem j83(l:List Int)(f:Nat)(X:List Nat)(S m:Nat):zfK l f X S m m=X:=by
 unfold zfK;have:∀k,k<=m->(List.range k).foldl (fun (b:List Nat) (x:Nat)=>if x<m then b else if (nxS l S x).testBit 0 then b else if b.length<(zfS l f (X++[x]) (nxS l S x) x).length then zfS l f (X++[x]) (nxS l S x) x else b) X=X:=by
  intro k;induction k with
  | zero=>intro _;rfl
  | succ k ih =>
   intro hk;exact zz183
 exact this m (Nat.le_refl _)
theorem jt4{l:List Int}{f:Nat}{X:List Nat}{S m k:Nat}(h:(nxS l S k).testBit 0=true):zfK l f X S m (k+1)=zfK l f X S m k:=by
 unfold zfK;rw[List.range_succ,List.foldl_append];simp only[List.foldl_cons,List.foldl_nil];split
 . rfl
 . first | rfl | rw[if_pos h]
theorem jg8{l:List Int}{f:Nat}{X:List Nat}{S m k:Nat}(hm:m<=k)(h:(nxS l S k).testBit 0=false)(hq:(zfK l f X S m k).length<(zfS l f (X++[k]) (nxS l S k) k).length):zfK l f X S m (k+1)=zfS l f (X++[k]) (nxS l S k) k:=by
 unfold zfK at hq ⊢;rw[List.range_succ,List.foldl_append];simp only[List.foldl_cons,List.foldl_nil];rw[if_neg om,if_neg (by rw[h];simp),if_pos hq]
theorem jg7{l:List Int}{f:Nat}{X:List Nat}{S m k:Nat}(hm:m<=k)(h:(nxS l S k).testBit 0=false)(hq:¬(zfK l f X S m k).length<(zfS l f (X++[k]) (nxS l S k) k).length):zfK l f X S m (k+1)=zfK l f X S m k:=by
 unfold zfK at hq ⊢;rw[List.range_succ,List.foldl_append];simp only[List.foldl_cons,List.foldl_nil];rw[if_neg om,if_neg (by rw[h];simp),if_neg hq]
def zfI(l:List Int):Nat->List Nat->Nat->Nat->List Nat->List Nat
 | 0,X,_,_,b=>if b.length<X.length then X else b
 | f+1,X,S,m,b=>(List.range (ord l)).foldl (fun (b:List Nat) (x:Nat)=>if x<m then b else if (nxS l S x).testBit 0 then b else zfI l f (X++[x]) (nxS l S x) x b) (if b.length<X.length then X else b)
def G6(l:List Int)(f:Nat)(X:List Nat)(S m:Nat)(b:List Nat)(k:Nat):List Nat:=(List.range k).foldl (fun (b:List Nat) (x:Nat)=>if x<m then b else if (nxS l S x).testBit 0 then b else zfI l f (X++[x]) (nxS l S x) x b) (if b.length<X.length then X else b)
theorem j82(l:List Int)(f:Nat)(X:List Nat)(S m:Nat)(b:List Nat):zfI l (f+1) X S m b=G6 l f X S m b (ord l):=rfl
theorem dm6(l:List Int)(f:Nat)(X:List Nat)(S m:Nat)(b:List Nat):G6 l f X S m b m=if b.length<X.length then X else b:=by
 unfold G6;have:∀k,k<=m->∀b0:List Nat,(List.range k).foldl (fun (b:List Nat) (x:Nat)=>if x<m then b else if (nxS l S x).testBit 0 then b else zfI l f (X++[x]) (nxS l S x) x b) b0=b0:=by
  intro k;induction k with
  | zero=>intro _ _;rfl
  | succ k ih =>
   intro hk b0;exact zz183
 exact this m (Nat.le_refl _) _
theorem di2{l:List Int}{f:Nat}{X:List Nat}{S m k:Nat}{b:List Nat}(h:(nxS l S k).testBit 0=true):G6 l f X S m b (k+1)=G6 l f X S m b k:=by
 unfold G6;rw[List.range_succ,List.foldl_append];simp only[List.foldl_cons,List.foldl_nil];split
 . rfl
 . first | rfl | rw[if_pos h]
theorem d09{l:List Int}{f:Nat}{X:List Nat}{S m k:Nat}{b:List Nat}(hm:m<=k)(h:(nxS l S k).testBit 0=false):G6 l f X S m b (k+1)=zfI l f (X++[k]) (nxS l S k) k (G6 l f X S m b k):=by
 unfold G6;rw[List.range_succ,List.foldl_append];simp only[List.foldl_cons,List.foldl_nil];rw[if_neg om,if_neg (by rw[h];simp)]
theorem j80(l:List Int):∀(f:Nat) (X:List Nat) (S m:Nat) (b:List Nat),zfI l f X S m b=if b.length<(zfS l f X S m).length then zfS l f X S m else b:=by
 intro f;induction f with
 | zero=>intro X S m b;rfl
 | succ f ih =>
  intro X S m b;unfold zfI zfS;have key:∀(L:List Nat) (r:List Nat),L.foldl (fun (b:List Nat) (x:Nat)=>if x<m then b else if (nxS l S x).testBit 0 then b else zfI l f (X++[x]) (nxS l S x) x b) (if b.length<r.length then r else b) =
   if b.length<(L.foldl (fun (b:List Nat) (x:Nat)=>if x<m then b else if (nxS l S x).testBit 0 then b else if b.length<(zfS l f (X++[x]) (nxS l S x) x).length then zfS l f (X++[x]) (nxS l S x) x else b) r).length then L.foldl (fun (b:List Nat) (x:Nat)=>if x<m then b else if (nxS l S x).testBit 0 then b else if b.length<(zfS l f (X++[x]) (nxS l S x) x).length then zfS l f (X++[x]) (nxS l S x) x else b) r else b:=by
   intro L;induction L with
   | nil=>intro r;rfl
   | cons x L ihL =>
    intro r;rw[List.foldl_cons,List.foldl_cons];by_cases h1:x<m
    . rw[if_pos h1,if_pos h1];exact ihL r
    . rw[if_neg h1,if_neg h1];by_cases h2:(nxS l S x).testBit 0=true
      . rw[if_pos h2,if_pos h2];exact ihL r
      . rw[if_neg h2,if_neg h2,ih];have e:(if (if b.length<r.length then r else b).length<(zfS l f (X++[x]) (nxS l S x) x).length then zfS l f (X++[x]) (nxS l S x) x else if b.length<r.length then r else b) =
         if b.length<(if r.length<(zfS l f (X++[x]) (nxS l S x) x).length then zfS l f (X++[x]) (nxS l S x) x else r).length then (if r.length<(zfS l f (X++[x]) (nxS l S x) x).length then zfS l f (X++[x]) (nxS l S x) x else r) else b:=by
         by_cases p1:b.length<r.length<;>by_cases p2:r.length<(zfS l f (X++[x]) (nxS l S x) x).length<;>by_cases p3:b.length<(zfS l f (X++[x]) (nxS l S x) x).length<;>simp[p1,p2,p3]<;>omega
        rw[e];exact ihL _
  exact key (List.range (ord l)) X
theorem j84{l:List Int}(hg:j1 l=true):∀(f:Nat) (X:List Nat) (S m:Nat),S<2 ^ ord l->S.testBit 0=false->(∀x∈X,x<ord l)->X.length<=cnt S->(∀x∈zfS l f X S m,x<ord l)∧(zfS l f X S m).length<=24:=by
 intro f;induction f with
 | zero=>intro X S m hS h0 hX hl;exact⟨hX,nle hl (r9 S)⟩
 | succ f ih =>
  intro X S m hS h0 hX hl;unfold zfS;have key:∀(L:List Nat),(∀x∈L,x<ord l)->∀r:List Nat,((∀x∈r,x<ord l)∧r.length<=24)->((∀x∈L.foldl (fun (b:List Nat) (x:Nat)=>if x<m then b else if (nxS l S x).testBit 0 then b else if b.length<(zfS l f (X++[x]) (nxS l S x) x).length then zfS l f (X++[x]) (nxS l S x) x else b) r,x<ord l)∧(L.foldl (fun (b:List Nat) (x:Nat)=>if x<m then b else if (nxS l S x).testBit 0 then b else if b.length<(zfS l f (X++[x]) (nxS l S x) x).length then zfS l f (X++[x]) (nxS l S x) x else b) r).length<=24):=by
   intro L;induction L with
   | nil=>intro _ r hr;exact hr
   | cons x L ihL =>
    intro hL r hr;rw[List.foldl_cons];refine ihL (fun y hy=>hL y (by simp[hy])) _ ?_;split
    . exact hr
    . split
      . exact hr
      . next h2 =>
         split
         . have hx:=hL x zm;refine ih (X++[x]) (nxS l S x) x (bj0 hg hS hx) (by simpa using h2) ?_ ?_
           . intro y hy;rw[List.mem_append,List.mem_singleton] at hy;rcases hy with hy | rfl
             . exact hX y hy
             . exact hx
           . have:=b71 hg hS h0 hx;simp;omega
         . exact hr
  exact key (List.range (ord l)) (fun x hx=>List.mem_range.1 hx) X ⟨hX,nle hl (r9 S)⟩
def lzB(l:List Int):Bool:=j1 l&&decide (ord l<=9)
def lzL(l:List Int):List Nat:=if lzB l then zfS l (ord l+1) [] 0 1 else []
theorem d41{l:List Int}(h:lzB l=false):lzL l=[]:=by unfold lzL;rw[h];rfl
theorem j29{l:List Int}(h:lzB l=true):lzL l=zfS l (ord l+1) [] 0 1:=by unfold lzL;rw[h];rfl
end Go.Zz
