/- What the functions on groups and counts return: first part. -/
import Derived.Test.YtnnbhcalddkmmaaGreatProg
import Derived.Test.YtnnbhcalddkmmaaGreatWo
import Derived.Laws.BytesArg
import Derived.BigRegion
namespace Go.Zz
open Go.RowKit Go.Proofs
set_option maxHeartbeats 400000
theorem elI:Tryz.prog.underlying 26=some (.slice (Tryz.prog.elem 26)):=by kernel_rfl
theorem szI:∀w,(sizeOf (Tryz.prog.elem 26)).run Tryz.prog w=.ok 1 w:=fun w=>by kernel_rfl
theorem N9(x lo hi:Int)(w:World) :
 Calls Tryz.prog 206 #[.int .i64 x,.int .i64 lo,.int .i64 hi] w fun e w'=>e=.returned (.bool (inB x lo hi))∧w=w':=by
 go_enter Tryz.func206,Tryz.ntmps206;go_wp2;all_goals (go_ret;refine⟨?_,rfl⟩;unfold inB;congr 2;simp;omega)
theorem U8(x lo hi:Int)(w:World) :
 Calls Tryz.prog 164 #[.int .i64 x,.int .i64 lo,.int .i64 hi] w fun e w'=>e=.returned (.bool (inB x lo hi))∧w=w':=by
 go_enter Tryz.func164,Tryz.ntmps164;go_wp2;all_goals (go_ret;refine⟨?_,rfl⟩;unfold inB;congr 2;simp;omega)
theorem l0(v:Value)(l:List Int)(w:World)(h:c8 w v l) :
 Calls Tryz.prog 94 #[.agg #[v]] w fun e w'=>e=.returned (.bool (c9 l))∧Ext w w':=by
 obtain⟨ao,c,adr,rfl,hlen,hadr,hcell⟩:=h.op;have hix:=j6 (c:=c) elI szI hadr;clear hadr h;have hE0:=(Ext.refl w).alloc (.cells #[.slice ao l.length c] 28);by_cases h3:l.length≤3
 · go_enter Tryz.func94,Tryz.ntmps94;go_wp2_with fail;go_loop [3,13] (fun n i=>∃k:Nat,k≤l.length∧(∀j,j<k→2≤nth l j∧nth l j≤24)∧n=.int .i64 (C4 (l.take k))∧i=.int .i64 k) (fun _ i=>l.length - (intOf i).toNat);(case atStart=>exact⟨0,by omega,by omega,rfl,rfl⟩);case round =>
    obtain⟨k,hk,hall,rfl,rfl⟩:=hrel;obtain⟨hb0,hb1⟩:=U2 k l hk (by omega) hall;by_cases hlt:k<l.length
    · have hck:=hcell k _ hlt hE0;by_cases hin:2≤nth l k∧nth l k≤24
      · have hin':=b01.2 hin;obtain⟨hm1,hm2⟩:=bm7 hb0 hb1 hin.1 hin.2;go_wp2_with (first | (go_at_call 206;refine (N9 _ _ _ _).mono ?_;rintro e w' ⟨rfl,rfl⟩));go_round;(case rel=>exact⟨k+1,by omega,fun j hj=>by by_cases e:j=k;(subst e;exact hin);exact hall j (by omega),by rw[P6 l k hlt],by go_num⟩);case measure=>(simp[intOf];omega)
      · have hin':=bm1.2 hin;go_wp2_with (first | (go_at_call 206;refine (N9 _ _ _ _).mono ?_;rintro e w' ⟨rfl,rfl⟩));go_ret;exact⟨l9 (bt2 hlt hin).symm,hE0⟩
    · have hkl:k=l.length:=(by omega);have hend:=Lib.hid (ch4 h3 (fun j hj=>hall j (by omega)));clear hall;subst hkl;rw[List.take_length] at *;go_wp2_with fail;go_ret;exact⟨l9 hend.out.symm,hE0⟩
 · go_enter Tryz.func94,Tryz.ntmps94;go_wp2_with fail;go_ret;exact⟨l9 (bt1 (by omega)).symm,hE0⟩
theorem q9(v:Value)(l:List Int)(w:World)(h:c8 w v l) :
 Calls Tryz.prog 42 #[.agg #[v]] w fun e w'=>e=.returned (.bool (c9 l))∧Ext w w':=by
 obtain⟨ao,c,adr,rfl,hlen,hadr,hcell⟩:=h.op;have hix:=j6 (c:=c) elI szI hadr;clear hadr h;have hE0:=(Ext.refl w).alloc (.cells #[.slice ao l.length c] 28);go_enter Tryz.func42,Tryz.ntmps42;go_wp2_with fail;go_loop [3,4] (fun n i=>∃k:Nat,k≤l.length∧k≤3∧(∀j,j<k→2≤nth l j∧nth l j≤24)∧n=.int .i64 (C4 (l.take k))∧i=.int .i64 k) (fun _ i=>l.length - (intOf i).toNat);case atStart=>exact⟨0,by omega,by omega,by omega,rfl,rfl⟩
 case round =>
  obtain⟨k,hk,hk3,hall,rfl,rfl⟩:=hrel;obtain⟨hb0,hb1⟩:=U2 k l hk hk3 hall;by_cases hlt:k<l.length
  · have hck:=hcell k _ hlt hE0;by_cases hin:2≤nth l k∧nth l k≤24
    · have hin':=b01.2 hin;obtain⟨hm1,hm2⟩:=bm7 hb0 hb1 hin.1 hin.2;by_cases h3:k<3
      · go_wp2_with (first | (go_at_call 164;refine (U8 _ _ _ _).mono ?_;rintro e w' ⟨rfl,rfl⟩));go_round;(case rel=>exact⟨k+1,by omega,by omega,fun j hj=>by by_cases e:j=k;(subst e;exact hin);exact hall j (by omega),by rw[P6 l k hlt],by go_num⟩);case measure=>(simp[intOf];omega)
      · go_wp2_with (first | (go_at_call 164;refine (U8 _ _ _ _).mono ?_;rintro e w' ⟨rfl,rfl⟩));go_ret;exact⟨l9 (bt1 (by omega)).symm,hE0⟩
    · have hin':=bm1.2 hin;go_wp2_with (first | (go_at_call 164;refine (U8 _ _ _ _).mono ?_;rintro e w' ⟨rfl,rfl⟩));go_ret;exact⟨l9 (bt2 hlt hin).symm,hE0⟩
  · have hkl:k=l.length:=(by omega);have hend:=Lib.hid (ch4 (by omega) (fun j hj=>hall j (by omega)));clear hall;subst hkl;rw[List.take_length] at *;go_wp2_with fail;go_ret;exact⟨l9 hend.out.symm,hE0⟩
end Go.Zz
namespace Go.Zz
open Go.RowKit Go.Proofs
set_option maxHeartbeats 400000
theorem j53:(Tryz.prog.info? 3).map (fun i=>(i.zero,i.size,i.bytes))=some (some (.int .i64 0),1,8):=by kernel_rfl
theorem slI:IntSl Tryz.prog 26 3:=⟨by kernel_rfl,info_parts j53⟩
def ds4(k:Int)(n:Nat):List Int:=(List.range n).map (fun i:Nat=>k+(i:Int))
theorem Own.stored_grown{TI:TypeId}{w0 w:World}{g c n:Nat}{l:List Int}(h:Own TI w0 w (.slice (some ⟨g,0,none⟩) n c) l)(hn:l.length=n)(j:Nat)(y:Int) :
 Own TI w0 (w.setCell ⟨g,j,none⟩ (.int .i64 y)) (.slice (some ⟨g,0,none⟩) n c) (l.set j y)∧w.grownBy (w.setCell ⟨g,j,none⟩ (.int .i64 y)) (some g):=by
 subst hn;exact⟨h.stored j y,(World.ownsRow.stored h.1 j (.int .i64 y)).2⟩
end Go.Zz
namespace Go.Zz
open Go.RowKit Go.Proofs
set_option maxHeartbeats 400000
set_option maxRecDepth 4000
theorem bd4(w:World)(y:Int) :
 (convert 22 9 (.slice (some ⟨w.heap.size,0,none⟩) 1 1)).run Tryz.prog (w.alloc (.cells #[.int .u8 y] 5))=.ok (.string (strOfNums [y])) (w.alloc (.cells #[.int .u8 y] 5)) :=
 run_convert_bytes_arg (P:=Tryz.prog) _ 22 5 (by rfl) (by rfl) w.heap.size 0 1 1 [y] rfl (fun i hi=>by
  have:i=0:=by omega
  subst this
  simp) _ (by rfl)
def O2(m:Nat)(s:ByteArray):ByteArray:=if m=0 then s else O2 (m / 10) (strOfNums [48+(m % 10:Nat)]++s)
theorem bd9(s:ByteArray):O2 0 s=s:=by rw[O2,if_pos rfl]
theorem ba5{m:Nat}(s:ByteArray)(h:¬m=0):O2 m s=O2 (m / 10) (strOfNums [48+(m % 10:Nat)]++s):=by rw[O2,if_neg h]
def j0(n:Int):ByteArray:=if n=0 then ⟨#[48]⟩ else if n<0 then ⟨#[45]⟩++O2 n.natAbs ⟨#[]⟩ else O2 n.natAbs ⟨#[]⟩
theorem bl7{n:Nat}(h:0<n):j0 n=O2 n ⟨#[]⟩:=by unfold j0;rw[if_neg (by omega),if_neg (by omega)];rfl
theorem ce0(n:Nat)(hn:n<1000000000000)(hp:0<n)(w:World) :
 Calls Tryz.prog 45 #[.int .i64 n] w fun e w'=>e=.returned (.string (j0 n))∧Ext w w':=by
 have h0:¬(n:Int)=0:=by omega
 have h1:¬(n:Int)<0:=by omega
 have Hf:=Lib.hid (bl7 hp);go_enter Tryz.func45,Tryz.ntmps45;go_wp2_with fail;go_loopw [0,3] (fun d s wr=>∃m:Nat,m<1000000000000∧d=.int .i64 m∧Ext w wr∧∃t:ByteArray,s=.string t∧t.size+m≤n∧Hid (O2 m t=j0 n)) (fun d _ _=>(intOf d).toNat);case atStart=>exact⟨n,hn,rfl,Ext.refl _,_,rfl,by simp[ByteArray.size],Lib.hid Hf.out.symm⟩
 case round =>
  obtain⟨m,hm,rfl,hE,t,rfl,hsz,Ht⟩:=hrel;by_cases hz:m=0
  · subst hz;go_wp2_with fail;go_ret;exact⟨d9 (by rw[←Ht.out,bd9]),hE⟩
  · have h2:¬(m:Int)=0:=(by omega);obtain⟨r,hr⟩:∃r:Nat,(m:Int) % 10=r:=⟨m % 10,by omega⟩;have hr10:r<10:=(by omega);obtain⟨q,hq⟩:∃q:Nat,(m:Int) / 10=q:=⟨m / 10,by omega⟩;have Hr:=Lib.hid (show r=m % 10 by omega);have Hq:=Lib.hid (show q=m / 10 by omega);have hcv:=bd4 wr (48+r);have hs1:(strOfNums [48+(r:Int)]).size=1:=strOfNums_size _;go_wp2_with fail;go_roundw;case rel =>
     have hq':=Hq.out;have hr':=Hr.out;exact⟨q,by omega,rfl,hE.alloc _,_,rfl,by (rw[ByteArray.size_append,hs1];omega),Lib.hid (by rw[←Ht.out,ba5 t hz,←hq',←hr'])⟩
    case measure =>
     have hq':=Hq.out;(simp[intOf];omega)
theorem d52:j0 (-1)=⟨#[45]⟩++(strOfNums [49]++⟨#[]⟩):=by
 unfold j0;rw[if_neg (by omega),if_pos (by omega)];show _++O2 1 _=_;rw[ba5 _ (by omega),bd9];rfl
theorem cl2(w:World) :
 Calls Tryz.prog 45 #[.int .i64 (-1)] w fun e w'=>e=.returned (.string (j0 (-1)))∧Ext w w':=by
 have Hf:=Lib.hid d52;go_enter Tryz.func45,Tryz.ntmps45;go_wp2_with fail;go_loopw [0,3] (fun d s wr=>Ext w wr∧((d=.int .i64 (-1)∧s=.string ⟨#[]⟩)∨(d=.int .i64 0∧s=.string (strOfNums [49]++⟨#[]⟩)))) (fun d _ _=>(intOf d).natAbs);case atStart=>exact⟨Ext.refl _,Or.inl ⟨rfl,rfl⟩⟩
 case round =>
  obtain⟨hE,⟨rfl,rfl⟩ | ⟨rfl,rfl⟩⟩:=hrel
  · have hcv:=bd4 wr 49;have hs1:(strOfNums [(49:Int)]).size=1:=strOfNums_size _;go_wp2_with fail;go_roundw;(case rel=>exact⟨hE.alloc _,Or.inr ⟨rfl,rfl⟩⟩);case measure=>(simp[intOf])
  · have hs1:(strOfNums [(49:Int)]++⟨#[]⟩).size=1:=(by rw[ByteArray.size_append,strOfNums_size];rfl);obtain⟨t,ht⟩:∃t,t=(strOfNums [(49:Int)]++⟨#[]⟩):=⟨_,rfl⟩;rw[←ht] at hs1 Hf ⊢;go_wp2_with fail;go_ret;exact⟨d9 (by rw[Hf.out,ht]),hE⟩
theorem o5(n:Int)(hn : -1≤n∧n<1000000000000)(w:World) :
 Calls Tryz.prog 45 #[.int .i64 n] w fun e w'=>e=.returned (.string (j0 n))∧Ext w w':=by
 rcases (by omega:n = -1∨n=0∨0<n) with rfl | rfl | h
 · exact cl2 w
 · have e:j0 0=⟨#[48]⟩:=(by unfold j0;rw[if_pos rfl]);have He:=Lib.hid e;clear e;go_enter Tryz.func45,Tryz.ntmps45;go_wp2_with fail;go_ret;exact⟨d9 He.out.symm,Ext.refl _⟩
 · obtain⟨m,rfl⟩:=Int.eq_ofNat_of_zero_le (show 0≤n by omega);exact ce0 m (by omega) (by omega) w
end Go.Zz
namespace Go.Zz
open Go.RowKit Go.Proofs
set_option maxHeartbeats 400000
def M7(l:List Int)(k:Nat):List Int:=(List.range l.length).map fun i=>if i<k∨l.length≤i+k then nth l (l.length - 1 - i) else nth l i
theorem N5(l:List Int)(k:Nat):(M7 l k).length=l.length:=by simp[M7]
theorem b53(l:List Int)(k i:Nat)(h:i<l.length):nth (M7 l k) i=if i<k∨l.length≤i+k then nth l (l.length - 1 - i) else nth l i:=by
 simp[M7,nth,h]
theorem cc7{a b:List Int}(h:a.length=b.length)(H:∀i,i<a.length→nth a i=nth b i):a=b:=by
 apply List.ext_getElem h;intro i h1 h2;have:=H i h1;simpa[nth,h1,h2] using this
theorem d63(l:List Int)(k i:Nat)(y:Int):nth (l.set k y) i=if i=k∧k<l.length then y else nth l i:=by
 unfold nth;by_cases h:i=k
 · subst h;by_cases h2:i<l.length
   · simp[h2]
   · simp[h2]
 · simp[h,List.getElem?_set_ne (Ne.symm h)]
theorem bu8(l:List Int):M7 l 0=l:=cc7 (N5 _ _) fun i hi=>by
 rw[N5] at hi
 rw[b53 _ _ _ hi,if_neg (by omega)]
theorem c45(l:List Int)(k:Nat)(h:l.length≤2*k+1):M7 l k=l.reverse:=cc7 (by rw[N5];simp) fun i hi=>by
 rw[N5] at hi
 have e:nth l.reverse i=nth l (l.length - 1 - i):=by
  rw[bj3 _ _ (by simpa using hi),bj3 _ _ (by omega)];simp
 rw[b53 _ _ _ hi,e]
 split
 · rfl
 · rw[show l.length - 1 - i=i by omega]
theorem bu7(l:List Int)(k:Nat)(h:2*k+1<l.length) :
 ((M7 l k).set k (nth (M7 l k) (l.length - 1 - k))).set (l.length - 1 - k) (nth (M7 l k) k)=M7 l (k+1):=cc7 (by simp[N5]) fun i hi=>by
 simp only[List.length_set,N5] at hi
 rw[d63,d63,b53 _ _ _ hi,b53 _ _ _ hi,b53 _ _ _ (show l.length - 1 - k<l.length by omega),b53 _ _ _ (show k<l.length by omega)]
 simp only[List.length_set,N5]
 by_cases h1:i=l.length - 1 - k
 · rw[if_pos ⟨h1,by omega⟩,if_neg (by omega),if_pos (by omega),h1,show l.length - 1 - (l.length - 1 - k)=k by omega]
 · rw[if_neg (by omega)]
   by_cases h2:i=k
   · rw[if_pos ⟨h2,by omega⟩,if_neg (by omega),if_pos (by omega),h2]
   · rw[if_neg (by omega)]
     by_cases h3:i<k∨l.length≤i+k
     · rw[if_pos h3,if_pos (by omega)]
     · rw[if_neg h3,if_neg (by omega)]
theorem j52:(Tryz.prog.info? 5).map (fun i=>(i.zero,i.size,i.bytes))=some (some (.int .u8 0),1,1):=by kernel_rfl
theorem j63:Tryz.prog.underlying 22=some (.slice 5):=by kernel_rfl
def L4(w0 w:World)(v:Value)(l:List Int):Prop :=
 w.ownsRow w0.heap.size 5 1 v l.length (l.map (Value.int .u8))∧l.length≤17592186044416
theorem L4.alloc{w0 w:World}{v:Value}{l:List Int}(h:L4 w0 w v l)(o:Obj):L4 w0 (w.alloc o) v l:=⟨h.1.alloc o,h.2⟩
theorem L4.blk{w0 w:World}{v:Value}{l:List Int}(h:L4 w0 w v l):∀k,v.ownBlock=some k→w0.heap.size≤k∧k<w.heap.size:=h.1.lt
theorem L4.shape{w0 w:World}{v:Value}{l:List Int}(h:L4 w0 w v l)(h0:0<l.length) :
 ∃(g c:Nat),v=.slice (some ⟨g,0,none⟩) l.length c∧l.length≤c∧w0.heap.size≤g∧g<w.heap.size ∧
  (∀i,i<l.length→w.cell? ⟨g,i,none⟩=some (.int .u8 (nth l i))∧w.frozen? ⟨g,i,none⟩=false):=by
 obtain⟨h1,h2⟩:=h
 rcases h1.2 with ⟨rfl,hl⟩ | ⟨g,cap,cur,rfl,hg,hh,hc,r⟩
 · omega
 · refine⟨g,cap,rfl,hc,hg,(Array.getElem?_eq_some_iff.1 hh).1,fun i hi=>⟨?_,World.ownsRow.frozenAt h1 i⟩⟩
   rw[World.ownsRow.cellAt h1 i (by omega)]
   simp[nth,List.getD,hi]
theorem bu1{w0 w:World}(hE:Ext w0 w):L4 w0 (w.alloc (.cells #[] 5)) (.slice (some ⟨w.heap.size,0,none⟩) 0 0) []:=by
 have:=World.ownsRow_lit (base:=w0.heap.size) (e:=5) (size:=1) w #[] 0 hE.size (by unfold maxLen;omega) (by simp);exact⟨by simpa using this,by simp⟩
theorem L4.stored{w0 w:World}{g c:Nat}{l:List Int}(h:L4 w0 w (.slice (some ⟨g,0,none⟩) l.length c) l)(j:Nat)(y:Int) :
 L4 w0 (w.setCell ⟨g,j,none⟩ (.int .u8 y)) (.slice (some ⟨g,0,none⟩) l.length c) (l.set j y):=by
 have h1:=(World.ownsRow.stored h.1 j (.int .u8 y)).1;refine⟨?_,by simpa using h.2⟩;simpa[List.map_set] using h1
theorem L4.grown{w0 w:World}{g c:Nat}{l:List Int}(h:L4 w0 w (.slice (some ⟨g,0,none⟩) l.length c) l)(j:Nat)(y:Int) :
 w.grownBy (w.setCell ⟨g,j,none⟩ (.int .u8 y)) (Value.slice (some ⟨g,0,none⟩) l.length c).ownBlock:=(World.ownsRow.stored h.1 j (.int .u8 y)).2
section
variable {ops:Array Oper} {rest:List Oper} {o:Oper} {a:Act} {Q:Exit→Act→World→Prop}
theorem V6(hg:o.guard=none)(s x:Operand)(hop:o.op=Op.call { callee:=Callee.builtin Builtin.append,args:=#[s,x],argTypes:=#[22,22] })
 (w0 W:World) (v:Value) (l:List Int) (y:Int) (hO:L4 w0 W v l) (hE:Ext w0 W) (hn:l.length<17592186044416) (hs:a.eval s=v) (hx:a.eval x=.slice (some ⟨W.heap.size,0,none⟩) 1 1)
 (hK:∀v' w',L4 w0 w' v' (l++[y])→Ext w0 w'→wpList Tryz.prog ops Q rest (a.put o.dst v') w') :
 wpList Tryz.prog ops Q (o :: rest) a (W.alloc (.cells #[.int .u8 y] 5)):=by
 obtain⟨i,hi,hz,hs1,hby⟩:=info_parts j52;refine wpList_append_own _ hg s x 22 hop w0.heap.size 5 i (.int .u8 0) 1 1 j63 hi hz hs1 hby rfl (by omega) v l.length _ hs (hO.alloc _).1 ⟨W.heap.size,0,none⟩ 1 1 [.int .u8 y] hx rfl ?_ (by simp[Value.oneCell']) (by unfold maxLen;omega) (by omega) (by have:=hE.size;simp;omega) ?_
 · exact cell_one_new _ _ _
 · intro v' w' h1 hg' _;have hE1:=hE.alloc (.cells #[.int .u8 y] 5);refine hK v' w' ⟨by simpa using h1,by simp;omega⟩ (hE1.grown hg' fun k hk=>(hO.blk k hk).1)
end
end Go.Zz
namespace Go.Zz
open Go.RowKit Go.Proofs
set_option maxHeartbeats 1000000
set_option maxRecDepth 4000
theorem elB:Tryz.prog.underlying 22=some (.slice (Tryz.prog.elem 22)):=by kernel_rfl
theorem dq5:∀w,(Go.sizeOf (Tryz.prog.elem 22)).run Tryz.prog w=.ok 1 w:=fun w=>by kernel_rfl
def rd(m:Nat):List Int:=if m=0 then [] else (48+(m % 10:Nat)) :: rd (m / 10)
theorem Z1:rd 0=[]:=by rw[rd,if_pos rfl]
theorem V2{m:Nat}(h:¬m=0):rd m=(48+((m % 10:Nat):Int)) :: rd (m / 10):=by rw[rd,if_neg h]
theorem bx0(m:Nat):∀s,O2 m s=strOfNums (rd m).reverse++s:=by
 induction m using Nat.strongRecOn with
 | ind m ih =>
  intro s;by_cases h:m=0
  · subst h;rw[bd9,Z1];apply ByteArray.ext;simp[strOfNums]
  · rw[ba5 s h,ih (m / 10) (by omega),V2 h];apply ByteArray.ext;simp[strOfNums]
theorem L4.cellAt{w0 w:World}{g n c:Nat}{l:List Int}(h:L4 w0 w (.slice (some ⟨g,0,none⟩) n c) l)(hn:l.length=n)(i:Nat)(hi:i<n) :
 w.cell? ⟨g,i,none⟩=some (.int .u8 (nth l i))∧w.frozen? ⟨g,i,none⟩=false:=by
 subst hn;have h1:=h.1;exact⟨by rw[World.ownsRow.cellAt h1 i (by omega)];simp[nth,List.getD,hi],World.ownsRow.frozenAt h1 i⟩
theorem L4.stored_grown{w0 w:World}{g n c:Nat}{l:List Int}(h:L4 w0 w (.slice (some ⟨g,0,none⟩) n c) l)(hn:l.length=n)(j:Nat)(y:Int) :
 L4 w0 (w.setCell ⟨g,j,none⟩ (.int .u8 y)) (.slice (some ⟨g,0,none⟩) n c) (l.set j y)∧w.grownBy (w.setCell ⟨g,j,none⟩ (.int .u8 y)) (some g):=by
 subst hn;exact⟨h.stored j y,h.grown j y⟩
theorem L4.str{w0 w:World}{g n c:Nat}{l:List Int}(h:L4 w0 w (.slice (some ⟨g,0,none⟩) n c) l)(hn:l.length=n) :
 (convert 22 9 (.slice (some ⟨g,0,none⟩) n c)).run Tryz.prog w=.ok (.string (strOfNums l)) w :=
 run_convert_bytes_arg (P:=Tryz.prog) _ 22 5 (by rfl) (by rfl) g 0 n c l hn (fun i hi=>by
  rw[Nat.zero_add];exact (h.cellAt hn i hi).1) _ (by rfl)
theorem ck4(n:Nat)(hn:n<1000000000000)(hp:0<n)(w:World) :
 Calls Tryz.prog 98 #[.int .i64 n] w fun e w'=>e=.returned (.string (j0 n))∧Ext w w':=by
 have h0:¬(n:Int)=0:=by omega
 have h1:¬(n:Int)<0:=by omega
 have hO0:=bu1 (Ext.refl w);have hE0:=(Ext.refl w).alloc (.cells #[] 5);go_enter Tryz.func98,Tryz.ntmps98;go_wp2_with fail;go_loopw [3,4] (fun v d wr=>∃(m:Nat) (l:List Int),m<1000000000000∧d=.int .i64 m∧Ext w wr∧L4 w wr v l∧l.length+m≤n∧l++rd m=rd n) (fun _ d _=>(intOf d).toNat);case atStart=>exact⟨n,[],hn,rfl,hE0,hO0,by simp,by simp⟩
 case round =>
  obtain⟨m,l,hm,rfl,hE,hO,hsz,hl⟩:=hrel;by_cases hz:m=0
  · subst hz;rw[Z1,List.append_nil] at hl;have hl0:0<l.length:=(by rw[hl,V2 (by omega)];simp);obtain⟨g,c,rfl,hlc,hg0,hg1,hcell⟩:=hO.shape hl0;obtain⟨L,hL⟩:∃L,L=l.length:=⟨_,rfl⟩;rw[←hL] at hsz hl0 hlc;have hLn:L≤n:=(by omega);have Hl:=Lib.hid hl;have HL:=Lib.hid hL;have HO:=Lib.hid hO;clear hl hL hO hcell hsz;rw[←HL.out];have hixB:∀(i:Nat) W,i<L→(Instr.indexAt 22 (.slice (some ⟨g,0,none⟩) L c) (.int .i64 (i:Int))).run Tryz.prog W=.ok (.pointer (some ⟨g,i,none⟩)) W:=by
     intro i W hi;rw[run_indexAt_slice (h:=elB),if_pos (by omega),dq5];simp[Result.andThen,Addr.add_lit]
    go_wp2_with fail;go_loopw [6,7] (fun i j wr=>∃(k jn:Nat),k≤jn+1∧jn+k+1=L∧i=.int .i64 k∧j=.int .i64 jn∧Ext w wr∧L4 w wr (.slice (some ⟨g,0,none⟩) L c) (M7 l k)) (fun _ j _=>(intOf j).toNat);(case atStart=>exact⟨0,L - 1,by omega,by omega,rfl,by go_num,hE,by rw[bu8,HL.out];exact HO.out⟩);case round =>
     obtain⟨k,jn,hk,hkj,rfl,rfl,hE2,hO2⟩:=hrel;have Hkj:=Lib.hid hkj;by_cases hlt:k<jn
     · have hkL:k<L:=(by omega);have hjL:jn<L:=(by omega);clear hkj;have hl2:(M7 l k).length=L:=(by rw[N5,←HL.out]);obtain⟨hck,hfk⟩:=hO2.cellAt hl2 k hkL;obtain⟨hcj,hfj⟩:=hO2.cellAt hl2 jn hjL;have Hl2:=Lib.hid hl2;have HO2:=Lib.hid hO2;clear hl2 hO2;have hne:¬k=jn:=(by omega);have hne2:¬jn=k:=(by omega);go_wp2_with fail;go_big_region;go_wp2_with fail;go_roundw;case rel =>
        have hkj':=Hkj.out;have hj2:(M7 l k).length - 1 - k=jn:=(by rw[Hl2.out];omega);obtain⟨hO3,hG3⟩:=HO2.out.stored_grown Hl2.out k (nth (M7 l k) jn);obtain⟨hO4,hG4⟩:=hO3.stored_grown (by rw[List.length_set];exact Hl2.out) jn (nth (M7 l k) k);have hst:=bu7 l k (by rw[←HL.out];omega);rw[←HL.out,show L - 1 - k=jn by omega] at hst;rw[hst] at hO4;exact⟨k+1,jn - 1,by omega,by omega,by go_num,by go_num,((hE2.grown hG3 (fun q hq=>by cases hq;exact hg0)).grown hG4 (fun q hq=>by cases hq;exact hg0)).drew,hO4⟩
       case measure=>(simp[intOf];omega)
     · clear hkj;have hcv:=hO2.str (by rw[N5,←HL.out]);have He:Hid (strOfNums (M7 l k)=j0 n):=Lib.hid (by
        have hk':=Hkj.out;have hL':=HL.out;rw[c45 l k (by omega),Hl.out,bl7 hp,bx0];apply ByteArray.ext;simp)
       go_wp2_with fail;go_ret;exact⟨d9 He.out,hE2⟩
  · have h2:¬(m:Int)=0:=(by omega);obtain⟨r,hr⟩:∃r:Nat,(m:Int) % 10=r:=⟨m % 10,by omega⟩;have hr10:r<10:=(by omega);obtain⟨q,hq⟩:∃q:Nat,(m:Int) / 10=q:=⟨m / 10,by omega⟩;have Hr:=Lib.hid (show r=m % 10 by omega);have Hq:=Lib.hid (show q=m / 10 by omega);have Hl:=Lib.hid hl;have Hsz:=Lib.hid hsz;have hlb:l.length<17592186044416:=(by omega);clear hl hsz;go_wp2_with (at_builtin;refine V6 rfl _ _ rfl w _ _ _ _ hO hE hlb rfl rfl ?_;intro v1 w1 hO1 hE1);go_roundw;case rel =>
     have hq':=Hq.out;have hr':=Hr.out;have hs':=Hsz.out;exact⟨q,_,by omega,rfl,hE1,hO1,by (simp;omega),by rw[←Hl.out,V2 hz,←hq',←hr'];simp⟩
    case measure =>
     have hq':=Hq.out;(simp[intOf];omega)
theorem cn2(w:World) :
 Calls Tryz.prog 98 #[.int .i64 (-1)] w fun e w'=>e=.returned (.string (j0 (-1)))∧Ext w w':=by
 have hO0:=bu1 (Ext.refl w);have hE0:=(Ext.refl w).alloc (.cells #[] 5);have Hf:=Lib.hid d52;go_enter Tryz.func98,Tryz.ntmps98;go_wp2_with fail;go_loopw [3,4] (fun v d wr=>Ext w wr∧((d=.int .i64 (-1)∧L4 w wr v [])∨(d=.int .i64 0∧L4 w wr v [49]))) (fun _ d _=>(intOf d).natAbs);case atStart=>exact⟨hE0,Or.inl ⟨rfl,hO0⟩⟩
 case round =>
  obtain⟨hE,⟨rfl,hO⟩ | ⟨rfl,hO⟩⟩:=hrel
  · go_wp2_with (at_builtin;refine V6 rfl _ _ rfl w _ _ _ _ hO hE (by simp) rfl rfl ?_;intro v1 w1 hO1 hE1);go_roundw;(case rel=>exact⟨hE1,Or.inr ⟨rfl,hO1⟩⟩);case measure=>(simp[intOf])
  · go_wp2_with (at_builtin;go_loud (refine V6 rfl _ _ rfl w _ _ _ _ hO hE (by simp) rfl rfl ?_;intro v1 w1 hO1 hE1;obtain⟨l,hl⟩:∃l:List Int,l=[49]++[45]:=⟨_,rfl⟩;rw[←hl] at hO1;have hl0:0<l.length:=(by rw[hl];simp);obtain⟨g,c,hv,hlc,hg0,hg1,-⟩:=hO1.shape hl0;obtain⟨L,hL⟩:∃L,L=l.length:=⟨_,rfl⟩;have hL2:L≤2:=(by rw[hL,hl];simp);rw[←hL] at hl0 hlc hv;subst hv;have HL:=Lib.hid hL;have Hl:=Lib.hid hl;have HO:=Lib.hid hO1;clear hL hl hO1 hO));have hixB:∀(i:Nat) W,i<L→(Instr.indexAt 22 (.slice (some ⟨g,0,none⟩) L c) (.int .i64 (i:Int))).run Tryz.prog W=.ok (.pointer (some ⟨g,i,none⟩)) W:=by
     intro i W hi;rw[run_indexAt_slice (h:=elB),if_pos (by omega),dq5];simp[Result.andThen,Addr.add_lit]
    go_wp2_with fail;go_loopw [6,7] (fun i j wr=>∃(k jn:Nat),k≤jn+1∧jn+k+1=L∧i=.int .i64 k∧j=.int .i64 jn∧Ext w wr∧L4 w wr (.slice (some ⟨g,0,none⟩) L c) (M7 l k)) (fun _ j _=>(intOf j).toNat);(case atStart=>exact⟨0,L - 1,by omega,by omega,rfl,by go_num,hE1,by rw[bu8];exact HO.out⟩);case round =>
     obtain⟨k,jn,hk,hkj,rfl,rfl,hE2,hO2⟩:=hrel;have Hkj:=Lib.hid hkj;by_cases hlt:k<jn
     · have hkL:k<L:=(by omega);have hjL:jn<L:=(by omega);clear hkj;have hl2:(M7 l k).length=L:=(by rw[N5,←HL.out]);obtain⟨hck,hfk⟩:=hO2.cellAt hl2 k hkL;obtain⟨hcj,hfj⟩:=hO2.cellAt hl2 jn hjL;have Hl2:=Lib.hid hl2;have HO2:=Lib.hid hO2;clear hl2 hO2;have hne:¬k=jn:=(by omega);have hne2:¬jn=k:=(by omega);go_wp2_with fail;go_big_region;go_wp2_with fail;go_roundw;case rel =>
        have hkj':=Hkj.out;have hj2:(M7 l k).length - 1 - k=jn:=(by rw[Hl2.out];omega);obtain⟨hO3,hG3⟩:=HO2.out.stored_grown Hl2.out k (nth (M7 l k) jn);obtain⟨hO4,hG4⟩:=hO3.stored_grown (by rw[List.length_set];exact Hl2.out) jn (nth (M7 l k) k);have hst:=bu7 l k (by rw[←HL.out];omega);rw[←HL.out,show L - 1 - k=jn by omega] at hst;rw[hst] at hO4;exact⟨k+1,jn - 1,by omega,by omega,by go_num,by go_num,((hE2.grown hG3 (fun q hq=>by cases hq;exact hg0)).grown hG4 (fun q hq=>by cases hq;exact hg0)).drew,hO4⟩
       case measure=>(simp[intOf];omega)
     · clear hkj;have hcv:=hO2.str (by rw[N5,←HL.out]);have He:Hid (strOfNums (M7 l k)=j0 (-1)):=Lib.hid (by
        have hk':=Hkj.out;have hL':=HL.out;rw[c45 l k (by omega),Hl.out,Hf.out];rfl)
       go_wp2_with fail;go_ret;exact⟨d9 He.out,hE2⟩
theorem ca6(w:World) :
 Calls Tryz.prog 98 #[.int .i64 0] w fun e w'=>e=.returned (.string (j0 0))∧Ext w w':=by
 have e:j0 0=⟨#[48]⟩:=by unfold j0;rw[if_pos rfl]
 have He:=Lib.hid e;clear e;go_enter Tryz.func98,Tryz.ntmps98;go_wp2_with fail;go_ret;exact⟨d9 He.out.symm,Ext.refl _⟩
theorem p5(n:Int)(hn : -1≤n∧n<1000000000000)(w:World) :
 Calls Tryz.prog 98 #[.int .i64 n] w fun e w'=>e=.returned (.string (j0 n))∧Ext w w':=by
 rcases (by omega:n = -1∨n=0∨0<n) with rfl | rfl | h
 · exact cn2 w
 · exact ca6 w
 · obtain⟨m,rfl⟩:=Int.eq_ofNat_of_zero_le (show 0≤n by omega);exact ck4 m (by omega) (by omega) w
end Go.Zz
namespace Go.Zz
open Go.RowKit Go.Proofs
set_option maxHeartbeats 400000
set_option maxRecDepth 4000
theorem cw6(k:Nat):∀m,m<10 ^ k→(rd m).length≤k:=by
 induction k with
 | zero=>intro m h;have:m=0:=by omega
         subst this;rw[Z1];simp
 | succ k ih =>
  intro m h;by_cases hm:m=0
  · subst hm;rw[Z1];simp
  · rw[V2 hm];have:=ih (m / 10) (by rw[Nat.pow_succ] at h;omega);simp;omega
theorem bd8{m:Nat}(h:m<1000000000000):(O2 m ⟨#[]⟩).size≤12:=by
 rw[bx0,ByteArray.size_append,strOfNums_size,List.length_reverse];have:=cw6 12 m (by omega);have e:(⟨#[]⟩:ByteArray).size=0:=rfl;omega
theorem br5{m:Nat}(h:0<m):1≤(O2 m ⟨#[]⟩).size:=by
 rw[bx0,ByteArray.size_append,strOfNums_size,List.length_reverse,V2 (by omega)];simp;omega
theorem j5{n:Int}(h : -1≤n∧n<1000000000000):(j0 n).size≤13:=by
 unfold j0;split
 · decide
 · split
   · have:=bd8 (m:=n.natAbs) (by omega);rw[ByteArray.size_append];have e:(⟨#[45]⟩:ByteArray).size=1:=rfl;omega
   · have:=bd8 (m:=n.natAbs) (by omega);omega
theorem W7{n:Int}(h : -1≤n∧n<1000000000000):1≤(j0 n).size:=by
 unfold j0;split
 · decide
 · split
   · rw[ByteArray.size_append];have e:(⟨#[45]⟩:ByteArray).size=1:=rfl;omega
   · exact br5 (by omega)
def jn(s:ByteArray)(f:Nat→ByteArray):Nat→ByteArray
 | 0=>⟨#[]⟩
 | k+1=>(if 0<k then jn s f k++s else jn s f k)++f k
theorem T0(s:ByteArray)(f:Nat→ByteArray):jn s f 1=⟨#[]⟩++f 0:=rfl
theorem T9(s:ByteArray)(f:Nat→ByteArray){k:Nat}(h:0<k):jn s f (k+1)=(jn s f k++s)++f k:=by
 show (if 0<k then _ else _)++_=_;rw[if_pos h]
theorem Q1(s:ByteArray)(f:Nat→ByteArray)(hs:s.size≤1):∀k,(∀i,i<k→(f i).size≤13)→(jn s f k).size≤14*k:=by
 intro k;induction k with
 | zero=>intro _;exact Nat.le_refl _
 | succ k ih =>
  intro h;have h1:=ih (fun i hi=>h i (by omega));have h2:=h k (by omega);unfold jn;split<;>simp only[ByteArray.size_append]<;>omega
theorem Y7(s:ByteArray)(f:Nat→ByteArray)(k:Nat)(h:0<k)(hf:∀i,i<k→1≤(f i).size):1≤(jn s f k).size:=by
 obtain⟨j,rfl⟩:∃j,k=j+1:=⟨k - 1,by omega⟩;have:=hf j (by omega);unfold jn;rw[ByteArray.size_append];omega
theorem T2{t:ByteArray}(h:1≤t.size):t.toList.isEmpty=false:=by
 rw[ByteArray.toList_eq,List.isEmpty_eq_false_iff];intro h2;have h3:t.data.toList.length=0:=by rw[h2];rfl
 rw[Array.length_toList] at h3;have h4:t.size=t.data.size:=rfl;omega
def p9(x:Int):Int:=min (max x (-1)) 99
theorem B9(x:Int) : -1≤p9 x∧p9 x<1000000000000:=by unfold p9;omega
theorem R4(x:Int)(w:World) :
 Calls Tryz.prog 277 #[.int .i64 x] w fun e w'=>e=.returned (.int .i64 (p9 x))∧w=w':=by
 rcases (by omega:x < -1∨(-1≤x∧x≤99)∨99<x) with h | ⟨h,h2⟩ | h
 · have He:Hid (p9 x = -1):=Lib.hid (by unfold p9;omega);go_enter Tryz.func277,Tryz.ntmps277;go_wp2_with fail;go_ret;exact⟨by rw[He.out];rfl,rfl⟩
 · have He:Hid (p9 x=x):=Lib.hid (by unfold p9;omega);go_enter Tryz.func277,Tryz.ntmps277;go_wp2_with fail;go_ret;exact⟨by rw[He.out];rfl,rfl⟩
 · have He:Hid (p9 x=99):=Lib.hid (by unfold p9;omega);go_enter Tryz.func277,Tryz.ntmps277;go_wp2_with fail;go_ret;exact⟨by rw[He.out];rfl,rfl⟩
def P5:ByteArray:=⟨#[44]⟩
def clS(l:List Int)(k:Nat):ByteArray:=j0 (p9 (nth l k))
theorem cp3(l:List Int)(k:Nat):(clS l k).size≤13:=j5 (B9 _)
theorem dl4(l:List Int)(k:Nat):1≤(clS l k).size:=W7 (B9 _)
def o0(l:List Int):ByteArray:=if l.length=0∨40<l.length then ⟨#[110,111,110,101]⟩ else jn P5 (clS l) l.length
theorem M3(v:Value)(l:List Int)(w:World)(h:c8 w v l) :
 Calls Tryz.prog 52 #[v] w fun e w'=>e=.returned (.string (o0 l))∧Ext w w':=by
 obtain⟨ao,c,adr,rfl,hlen,hadr,hcell⟩:=h.op;have hix:=j6 (c:=c) elI szI hadr;clear hadr h;by_cases hb:40<l.length
 · have He:Hid (o0 l=⟨#[110,111,110,101]⟩):=Lib.hid (by unfold o0;rw[if_pos (Or.inr hb)]);have hb2:¬l.length≤40:=(by omega);go_enter Tryz.func52,Tryz.ntmps52;go_wp2_with fail;go_loopw [3,4] (fun s i wr=>i=.int .i64 0∧s=.string ⟨#[]⟩∧Ext w wr) (fun _ _ _=>0);(case atStart=>exact⟨rfl,rfl,Ext.refl _⟩);case round =>
    obtain⟨rfl,rfl,hE⟩:=hrel;have hp:0<l.length:=(by omega);go_wp2_with fail;go_ret;exact⟨d9 He.out.symm,hE⟩
 · have hb2:l.length≤40:=(by omega);clear hb;go_enter Tryz.func52,Tryz.ntmps52;go_wp2_with fail;go_loopw [3,4] (fun s i wr=>∃(k:Nat) (t:ByteArray),k≤l.length∧i=.int .i64 k∧s=.string t∧Hid (t=jn P5 (clS l) k)∧Ext w wr) (fun _ i _=>l.length - (intOf i).toNat);(case atStart=>exact⟨0,_,by omega,rfl,rfl,Lib.hid rfl,Ext.refl _⟩);case round =>
    obtain⟨k,t,hk,rfl,rfl,Ht,hE⟩:=hrel;have hts:t.size≤14*k:=(by rw[Ht.out];exact Q1 _ _ (by decide) k fun i _=>cp3 l i);by_cases hlt:k<l.length
    · have hck:=hcell k _ hlt hE;rcases (by omega:nth l k ≤ -1∨(-1<nth l k∧nth l k<99)∨99≤nth l k) with h | ⟨h,h2⟩ | h
      · have hA:nth l k<99:=(by omega);have hB:¬ -1<nth l k:=(by omega);have He:Hid (clS l k=j0 (-1)):=Lib.hid (by unfold clS;congr 1;unfold p9;omega);have hcF:=o5 (-1) (by omega);have hsz:(j0 (-1)).size≤13:=j5 (by omega);obtain⟨u,hu⟩:∃u,u=j0 (-1):=⟨_,rfl⟩;rw[←hu] at hsz hcF He;clear hu;by_cases hk0:0<k
        · have hk1:(0:Int)<k:=(by omega);go_wp2_with (with_reducible refine (hcF _).mono ?_;rintro e w1 ⟨rfl,hE1⟩);go_roundw;(case rel=>exact⟨k+1,_,by omega,by go_num,rfl,Lib.hid (by rw[T9 _ _ hk0,←Ht.out,He.out];rfl),hE.trans hE1⟩);case measure=>(simp[intOf];omega)
        · have hk1:k=0:=(by omega);subst hk1;have hix0:∀W,(Instr.indexAt 26 (.slice ao l.length c) (.int .i64 0)).run Tryz.prog W=.ok (.pointer (some (adr 0))) W:=fun W=>(by simpa using hix 0 W hlt);go_wp2_with (with_reducible refine (hcF _).mono ?_;rintro e w1 ⟨rfl,hE1⟩);go_roundw;(case rel=>exact⟨1,_,by omega,rfl,rfl,Lib.hid (by rw[T0,He.out,Ht.out];rfl),hE.trans hE1⟩);case measure=>(simp[intOf];omega)
      · skip;have He:Hid (clS l k=j0 (nth l k)):=Lib.hid (by unfold clS;congr 1;unfold p9;omega);have hcF:=o5 (nth l k) (by omega);have hsz:(j0 (nth l k)).size≤13:=j5 (by omega);obtain⟨u,hu⟩:∃u,u=j0 (nth l k):=⟨_,rfl⟩;rw[←hu] at hsz hcF He;clear hu;by_cases hk0:0<k
        · have hk1:(0:Int)<k:=(by omega);go_wp2_with (with_reducible refine (hcF _).mono ?_;rintro e w1 ⟨rfl,hE1⟩);go_roundw;(case rel=>exact⟨k+1,_,by omega,by go_num,rfl,Lib.hid (by rw[T9 _ _ hk0,←Ht.out,He.out];rfl),hE.trans hE1⟩);case measure=>(simp[intOf];omega)
        · have hk1:k=0:=(by omega);subst hk1;have hix0:∀W,(Instr.indexAt 26 (.slice ao l.length c) (.int .i64 0)).run Tryz.prog W=.ok (.pointer (some (adr 0))) W:=fun W=>(by simpa using hix 0 W hlt);go_wp2_with (with_reducible refine (hcF _).mono ?_;rintro e w1 ⟨rfl,hE1⟩);go_roundw;(case rel=>exact⟨1,_,by omega,rfl,rfl,Lib.hid (by rw[T0,He.out,Ht.out];rfl),hE.trans hE1⟩);case measure=>(simp[intOf];omega)
      · have hA:¬nth l k<99:=(by omega);have He:Hid (clS l k=j0 (99)):=Lib.hid (by unfold clS;congr 1;unfold p9;omega);have hcF:=o5 (99) (by omega);have hsz:(j0 (99)).size≤13:=j5 (by omega);obtain⟨u,hu⟩:∃u,u=j0 (99):=⟨_,rfl⟩;rw[←hu] at hsz hcF He;clear hu;by_cases hk0:0<k
        · have hk1:(0:Int)<k:=(by omega);go_wp2_with (with_reducible refine (hcF _).mono ?_;rintro e w1 ⟨rfl,hE1⟩);go_roundw;(case rel=>exact⟨k+1,_,by omega,by go_num,rfl,Lib.hid (by rw[T9 _ _ hk0,←Ht.out,He.out];rfl),hE.trans hE1⟩);case measure=>(simp[intOf];omega)
        · have hk1:k=0:=(by omega);subst hk1;have hix0:∀W,(Instr.indexAt 26 (.slice ao l.length c) (.int .i64 0)).run Tryz.prog W=.ok (.pointer (some (adr 0))) W:=fun W=>(by simpa using hix 0 W hlt);go_wp2_with (with_reducible refine (hcF _).mono ?_;rintro e w1 ⟨rfl,hE1⟩);go_roundw;(case rel=>exact⟨1,_,by omega,rfl,rfl,Lib.hid (by rw[T0,He.out,Ht.out];rfl),hE.trans hE1⟩);case measure=>(simp[intOf];omega)
    · have hkl:k=l.length:=(by omega);subst hkl;by_cases h0:l.length=0
      · have He:Hid (o0 l=⟨#[110,111,110,101]⟩):=Lib.hid (by unfold o0;rw[if_pos (Or.inl h0)]);have ht0:t=⟨#[]⟩:=(by rw[Ht.out,h0];rfl);subst ht0;clear h0 hts;go_wp2_with fail;go_ret;exact⟨d9 He.out.symm,hE⟩
      · have He:Hid (o0 l=t):=Lib.hid (by unfold o0;rw[if_neg (by omega),Ht.out]);have h1:=Y7 P5 (clS l) l.length (by omega) fun i _=>dl4 l i;rw[←Ht.out] at h1;have ht1:=T2 h1;go_wp2_with fail;go_ret;exact⟨d9 He.out.symm,hE⟩
end Go.Zz
namespace Go.Zz
open Go.RowKit Go.Proofs
set_option maxHeartbeats 400000
set_option maxRecDepth 4000
def bt(s:ByteArray)(i:Nat):Nat:=(s.data.toList.getD i 0).toNat
theorem bd3(s:ByteArray)(i:Nat)(h:i<s.size):(s[i]'h).toNat=bt s i:=by
 have h2:i<s.data.toList.length:=by rw[Array.length_toList];exact h
 unfold bt;rw[List.getD_eq_getElem?_getD,List.getElem?_eq_getElem h2];rfl
theorem d41(s:ByteArray)(i:Nat)(h:s.size≤i):bt s i=0:=by
 have h2:s.data.toList.length≤i:=by rw[Array.length_toList];exact h
 unfold bt;rw[List.getD_eq_getElem?_getD,List.getElem?_eq_none h2];rfl
theorem dr9(s:ByteArray)(i:Nat):bt s i<256:=UInt8.toNat_lt _
theorem dt8(x y:ByteArray)(i:Nat)(h:i<x.size):bt (x++y) i=bt x i:=by
 have h2:i<x.data.toList.length:=by rw[Array.length_toList];exact h
 unfold bt;rw[ByteArray.data_append,Array.toList_append,List.getD_eq_getElem?_getD,List.getElem?_append_left h2,←List.getD_eq_getElem?_getD]
theorem dt9(x y:ByteArray)(i:Nat)(h:x.size≤i):bt (x++y) i=bt y (i - x.size):=by
 have h2:x.data.toList.length≤i:=by rw[Array.length_toList];exact h
 have h3:x.data.toList.length=x.size:=Array.length_toList;unfold bt;rw[ByteArray.data_append,Array.toList_append,List.getD_eq_getElem?_getD,List.getElem?_append_right h2,←List.getD_eq_getElem?_getD,h3]
theorem dd2(l:List Int)(i:Nat)(hi:i<l.length)(hr:0≤nth l i∧nth l i<256):(bt (strOfNums l) i:Int)=nth l i:=by
 unfold bt;rw[strOfNums_data,List.getD_eq_getElem?_getD,List.getElem?_map,List.getElem?_eq_getElem hi];have e:nth l i=l[i]:=by simp[nth,List.getD,hi]
 rw[e] at hr ⊢;simp only[Option.map_some,Option.getD_some,UInt8.toNat_ofNat'];omega
def pv(s:ByteArray):Nat→Nat × Nat
 | 0=>(0,0)
 | i+1=>if 48≤bt s i∧bt s i≤57 then (10*(pv s i).1+(bt s i - 48),(pv s i).2+1) else pv s i
theorem bj7(s:ByteArray)(i:Nat)(h:48≤bt s i∧bt s i≤57):pv s (i+1)=(10*(pv s i).1+(bt s i - 48),(pv s i).2+1):=by
 show (if _ then _ else _)=_;rw[if_pos h]
theorem da8(s:ByteArray)(i:Nat)(h:¬(48≤bt s i∧bt s i≤57)):pv s (i+1)=pv s i:=by
 show (if _ then _ else _)=_;rw[if_neg h]
theorem cm5(s:ByteArray)(i:Nat):(pv s i).1<10 ^ (pv s i).2∧(pv s i).2≤i:=by
 induction i with
 | zero=>exact⟨by show 0<10 ^ 0;decide,Nat.le_refl _⟩
 | succ i ih =>
  by_cases h:48≤bt s i∧bt s i≤57
  · rw[bj7 s i h];refine⟨?_,by simp;omega⟩;show 10*(pv s i).1+(bt s i - 48)<10 ^ ((pv s i).2+1);rw[Nat.pow_succ];omega
  · rw[da8 s i h];exact⟨ih.1,by omega⟩
theorem dh7(k m:Nat)(h:k≤m):10 ^ k≤10 ^ m:=Nat.pow_le_pow_right (by omega) h
theorem da7(s:ByteArray)(i:Nat)(h:i≤11):(pv s i).1<100000000000:=by
 have h1:=(cm5 s i).1;have h2:=(cm5 s i).2;have:=dh7 (pv s i).2 11 (by omega);omega
def sgI(s:ByteArray):Int:=if bt s 0=45 then -((pv s (min s.size 11)).1:Int) else (pv s (min s.size 11)).1
def pI(s:ByteArray):Int × Bool:=if (pv s (min s.size 11)).2≤9∧s.size≤10∧j0 (sgI s)=s then (sgI s,true) else (0,false)
theorem cm2{s:ByteArray}(h:¬((pv s (min s.size 11)).2≤9∧s.size≤10∧j0 (sgI s)=s)):pI s=(0,false):=if_neg h
theorem c80{s:ByteArray}(h:(pv s (min s.size 11)).2≤9∧s.size≤10∧j0 (sgI s)=s):pI s=(sgI s,true):=if_pos h
theorem ds7(m:Nat):∀x∈rd m,48≤x∧x≤57:=by
 induction m using Nat.strongRecOn with
 | ind m ih =>
  intro x hx;by_cases h:m=0
  · subst h;rw[Z1] at hx;simp at hx
  · rw[V2 h] at hx;rcases List.mem_cons.1 hx with rfl | hx
    · omega
    · exact ih (m / 10) (by omega) x hx
theorem b07(m:Nat):O2 m ⟨#[]⟩=strOfNums (rd m).reverse:=by
 rw[bx0];apply ByteArray.ext;simp
theorem j22(m i:Nat)(h:i<(rd m).reverse.length):48≤nth (rd m).reverse i∧nth (rd m).reverse i≤57:=by
 have e:nth (rd m).reverse i=(rd m).reverse[i]:=by unfold nth;rw[List.getD_eq_getElem?_getD,List.getElem?_eq_getElem h];rfl
 rw[e];exact ds7 m _ (List.mem_reverse.1 (List.getElem_mem _))
theorem cg5(m:Nat)(h0:0<m)(h9:m<1000000000):1≤(O2 m ⟨#[]⟩).size∧(O2 m ⟨#[]⟩).size≤9∧∀i,i<(O2 m ⟨#[]⟩).size→48≤bt (O2 m ⟨#[]⟩) i∧bt (O2 m ⟨#[]⟩) i≤57:=by
 refine⟨br5 h0,?_,?_⟩
 · rw[b07,strOfNums_size,List.length_reverse];exact cw6 9 m (by omega)
 · rw[b07,strOfNums_size];intro i hi;have h1:=j22 m i hi;have h2:=dd2 _ i hi (by omega);omega
def atB(s:ByteArray):Nat:=if bt s 0=45 then 1 else 0
theorem dm0(n:Int)(h : -1000000000<n∧n<1000000000):atB (j0 n)+1≤(j0 n).size∧(j0 n).size≤atB (j0 n)+9∧∀i,atB (j0 n)≤i→i<(j0 n).size→48≤bt (j0 n) i∧bt (j0 n) i≤57:=by
 by_cases h0:n=0
 · subst h0;have e:j0 0=⟨#[48]⟩:=rfl;rw[e];refine⟨by decide,by decide,fun i _ hi=>?_⟩
   have:i=0:=by have e2:(⟨#[48]⟩:ByteArray).size=1:=rfl
                omega
   subst this;decide
 · by_cases h1:n<0
   · obtain⟨d,hd⟩:∃d,d=O2 n.natAbs ⟨#[]⟩:=⟨_,rfl⟩;have e:j0 n=⟨#[45]⟩++d:=(by unfold j0;rw[if_neg h0,if_pos h1,hd]);obtain⟨a,b,c⟩:=cg5 n.natAbs (by omega) (by omega);rw[←hd] at a b c;have e1:(⟨#[45]⟩:ByteArray).size=1:=rfl;have e2:(j0 n).size=1+d.size:=(by rw[e,ByteArray.size_append,e1]);have e3:bt (j0 n) 0=45:=(by rw[e,dt8 _ _ _ (by decide)];rfl);have e4:atB (j0 n)=1:=(by unfold atB;rw[if_pos e3]);rw[e4,e2];refine⟨by omega,by omega,fun i hi hi2=>?_⟩;rw[e,dt9 _ _ _ (by rw[e1];exact hi),e1];exact c _ (by omega)
   · obtain⟨d,hd⟩:∃d,d=O2 n.natAbs ⟨#[]⟩:=⟨_,rfl⟩;have e:j0 n=d:=(by unfold j0;rw[if_neg h0,if_neg h1,hd]);obtain⟨a,b,c⟩:=cg5 n.natAbs (by omega) (by omega);rw[←hd] at a b c;have e3:¬bt d 0=45:=(by have:=c 0 (by omega);omega);have e4:atB d=0:=(by unfold atB;rw[if_neg e3]);rw[e,e4];exact⟨by omega,by omega,fun i _ hi=>c i hi⟩
theorem j24(s:ByteArray)(h:(pv s (min s.size 11)).2≤9) : -1000000000<sgI s∧sgI s<1000000000:=by
 have h1:=(cm5 s (min s.size 11)).1;have h2:=dh7 _ 9 h;unfold sgI;split<;>omega
theorem cx8(s:ByteArray) : -1000000000000<sgI s∧sgI s<1000000000000:=by
 have h1:=da7 s (min s.size 11) (by omega);unfold sgI;split<;>omega
theorem co3(s:ByteArray):atB s≤1:=by unfold atB;split<;>omega
theorem d66{s:ByteArray}(h:(pI s).2=true):atB s+1≤s.size∧s.size≤atB s+9∧∀i,atB s≤i→i<s.size→48≤bt s i∧bt s i≤57:=by
 by_cases hc:(pv s (min s.size 11)).2≤9∧s.size≤10∧j0 (sgI s)=s
 · have:=dm0 (sgI s) (j24 s hc.1);rw[hc.2.2] at this;exact this
 · rw[cm2 hc] at h;cases h
theorem dh3{s:ByteArray}(h:¬(atB s+1≤s.size∧s.size≤atB s+9)):pI s=(0,false):=by
 refine cm2 fun hc=>h ?_;have:=d66 (s:=s) (by rw[c80 hc]);exact⟨this.1,this.2.1⟩
theorem j17{s:ByteArray}{i:Nat}(h0:atB s≤i)(hi:i<s.size)(h:¬(48≤bt s i∧bt s i≤57)):pI s=(0,false):=by
 refine cm2 fun hc=>h ?_;have:=d66 (s:=s) (by rw[c80 hc]);exact this.2.2 i h0 hi
theorem j58(s:ByteArray):pv s (atB s)=(0,0):=by
 unfold atB;split
 · rename_i h;rw[da8 s 0 (by omega)];rfl
 · rfl
theorem j20{s:ByteArray}(h:atB s+1≤s.size∧s.size≤atB s+9)(hk:(pv s s.size).2=s.size - atB s):pI s=if j0 (sgI s)=s then (sgI s,true) else (0,false):=by
 have ha:=co3 s;have e:min s.size 11=s.size:=by omega
 unfold pI;rw[e];by_cases hf:j0 (sgI s)=s
 · rw[if_pos ⟨by omega,by omega,hf⟩,if_pos hf]
 · rw[if_neg (fun q=>hf q.2.2),if_neg hf]
theorem dx6{s:ByteArray}(h:s.size≤atB s+9):sgI s=if bt s 0=45 then -((pv s s.size).1:Int) else (pv s s.size).1:=by
 have ha:=co3 s;unfold sgI;rw[show min s.size 11=s.size by omega]
def c21(c:Int)(s:ByteArray):Nat→ByteArray→List ByteArray
 | 0,p=>[p]
 | k+1,p=>if (bt s (s.size - (k+1)):Int)=c then p :: c21 c s k ⟨#[]⟩ else c21 c s k (p++s.extract (s.size - (k+1)) (s.size - k))
def V9(c:Int)(s:ByteArray)(i:Nat)(p:ByteArray):List ByteArray:=c21 c s (s.size - i) p
def B7(c:Int)(s:ByteArray):List ByteArray:=V9 c s 0 ⟨#[]⟩
theorem c22(c:Int)(s:ByteArray)(i:Nat)(p:ByteArray)(h:s.size≤i):V9 c s i p=[p]:=by
 unfold V9;rw[show s.size - i=0 by omega];rfl
theorem c23(c:Int)(s:ByteArray)(i:Nat)(p:ByteArray)(h:i<s.size)(hc:(bt s i:Int)=c):V9 c s i p=p :: V9 c s (i+1) ⟨#[]⟩:=by
 unfold V9;obtain⟨k,hk⟩:∃k,s.size - i=k+1:=⟨s.size - i - 1,by omega⟩;rw[hk,show s.size - (i+1)=k by omega];show (if _ then _ else _)=_;rw[show s.size - (k+1)=i by omega,if_pos hc]
theorem br4(c:Int)(s:ByteArray)(i:Nat)(p:ByteArray)(h:i<s.size)(hc:¬(bt s i:Int)=c):V9 c s i p=V9 c s (i+1) (p++s.extract i (i+1)):=by
 unfold V9;obtain⟨k,hk⟩:∃k,s.size - i=k+1:=⟨s.size - i - 1,by omega⟩;rw[hk,show s.size - (i+1)=k by omega];show (if _ then _ else _)=_;rw[show s.size - (k+1)=i by omega,if_neg hc,show s.size - k=i+1 by omega]
theorem dd9(c:Int)(s:ByteArray):∀k p,k≤s.size→(∀t∈c21 c s k p,t.size≤p.size+k)∧(c21 c s k p).length≤k+1∧1≤(c21 c s k p).length:=by
 intro k;induction k with
 | zero=>intro p _;exact⟨fun t ht=>by rw[List.mem_singleton.1 ht];omega,Nat.le_refl _,Nat.le_refl _⟩
 | succ k ih =>
  intro p hk;rw[c21];split
  · obtain⟨a,b,d⟩:=ih ⟨#[]⟩ (by omega);refine⟨fun t ht=>?_,by simp;omega,by simp⟩;rcases List.mem_cons.1 ht with rfl | ht
    · omega
    · have:=a t ht;have e:(⟨#[]⟩:ByteArray).size=0:=rfl;omega
  · obtain⟨a,b,d⟩:=ih (p++s.extract (s.size - (k+1)) (s.size - k)) (by omega);refine⟨fun t ht=>?_,by omega,d⟩;have:=a t ht;rw[ByteArray.size_append,ByteArray.size_extract] at this;omega
theorem bd6(c:Int)(s:ByteArray):(∀t∈B7 c s,t.size≤s.size)∧(B7 c s).length≤s.size+1∧1≤(B7 c s).length:=by
 have:=dd9 c s s.size ⟨#[]⟩ (Nat.le_refl _);have e:(⟨#[]⟩:ByteArray).size=0:=rfl;unfold B7 V9;rw[Nat.sub_zero];refine⟨fun t ht=>?_,this.2⟩;have:=this.1 t ht;omega
theorem dl9(s:ByteArray)(f i:Nat)(h:f≤i):s.extract f i++s.extract i (i+1)=s.extract f (i+1):=by
 rw[ByteArray.extract_append_extract];congr 1<;>omega
theorem cr5(s:ByteArray)(f:Nat):s.extract f f=⟨#[]⟩:=by
 apply ByteArray.ext;simp
theorem U6{x y:ByteArray}:(x.toList == y.toList)=decide (x=y):=by
 rw[ByteArray.toList_eq,ByteArray.toList_eq];by_cases h:x=y
 · subst h;simp
 · rw[decide_eq_false h,beq_eq_false_iff_ne];intro e;exact h (ByteArray.ext (Array.ext' e))
end Go.Zz
namespace Go.Zz
open Go.RowKit Go.Proofs
set_option maxHeartbeats 400000
set_option maxRecDepth 4000
theorem ds1:(Tryz.prog.info? 9).map (fun i=>(i.zero,i.size,i.bytes))=some (some (.string ⟨#[]⟩),1,16):=by kernel_rfl
theorem j45:Tryz.prog.underlying 24=some (.slice 9):=by kernel_rfl
theorem elS:Tryz.prog.underlying 24=some (.slice (Tryz.prog.elem 24)):=by kernel_rfl
theorem szS:∀w,(Go.sizeOf (Tryz.prog.elem 24)).run Tryz.prog w=.ok 1 w:=fun w=>by kernel_rfl
def m6(l:List ByteArray)(i:Nat):ByteArray:=l.getD i ⟨#[]⟩
def J0(w0 w:World)(v:Value)(l:List ByteArray):Prop :=
 w.ownsRow w0.heap.size 9 1 v l.length (l.map Value.string)∧l.length≤1000000
theorem J0.blk{w0 w:World}{v:Value}{l:List ByteArray}(h:J0 w0 w v l):∀k,v.ownBlock=some k→w0.heap.size≤k∧k<w.heap.size:=h.1.lt
theorem J0.alloc{w0 w:World}{v:Value}{l:List ByteArray}(h:J0 w0 w v l)(o:Obj):J0 w0 (w.alloc o) v l:=⟨h.1.alloc o,h.2⟩
theorem J0.ext{w0 w w':World}{v:Value}{l:List ByteArray}(h:J0 w0 w v l)(hE:Ext w w'):J0 w0 w' v l:=by
 refine⟨h.1.kept (row:=none) ⟨hE.os,hE.tape,hE.output,hE.size,fun k hk _=>hE.block k hk⟩ ?_,h.2⟩;cases hv:v.ownBlock<;>simp
theorem b62{w0 w:World}(hE:Ext w0 w):J0 w0 (w.alloc (.cells #[] 9)) (.slice (some ⟨w.heap.size,0,none⟩) 0 0) []:=by
 have:=World.ownsRow_lit (base:=w0.heap.size) (e:=9) (size:=1) w #[] 0 hE.size (by unfold maxLen;omega) (by simp);exact⟨by simpa using this,by simp⟩
def S5(w:World)(v:Value)(l:List ByteArray):Prop :=
 ∃(ao:Option Addr) (c:Nat),v=.slice ao l.length c∧l.length≤1000000∧∀i,i<l.length→∃g,ao=some ⟨g,0,none⟩∧w.cell? ⟨g,i,none⟩=some (.string (m6 l i))
theorem J0.strs{w0 w:World}{v:Value}{l:List ByteArray}(h:J0 w0 w v l):S5 w v l:=by
 obtain⟨h1,h2⟩:=h;rcases h1.2 with ⟨rfl,hl⟩ | ⟨g,cap,cur,rfl,hg,hh,hc,r⟩
 · exact⟨none,0,by rw[hl],h2,by omega⟩
 · refine⟨some ⟨g,0,none⟩,cap,rfl,h2,fun i hi=>⟨g,rfl,?_⟩⟩;rw[World.ownsRow.cellAt h1 i (by omega)];simp[m6,List.getD,hi]
section
variable {ops:Array Oper} {rest:List Oper} {o:Oper} {a:Act} {Q:Exit→Act→World→Prop}
theorem O0(hg:o.guard=none)(s x:Operand)(hop:o.op=Op.call { callee:=Callee.builtin Builtin.append,args:=#[s,x],argTypes:=#[24,24] })
 (w0 W:World) (v:Value) (l:List ByteArray) (y:ByteArray) (hO:J0 w0 W v l) (hE:Ext w0 W) (hn:l.length<1000000) (hs:a.eval s=v) (hx:a.eval x=.slice (some ⟨W.heap.size,0,none⟩) 1 1)
 (hK:∀v' w',J0 w0 w' v' (l++[y])→Ext w0 w'→wpList Tryz.prog ops Q rest (a.put o.dst v') w') :
 wpList Tryz.prog ops Q (o :: rest) a (W.alloc (.cells #[.string y] 9)):=by
 obtain⟨i,hi,hz,hs1,hby⟩:=info_parts ds1;refine wpList_append_own _ hg s x 24 hop w0.heap.size 9 i (.string ⟨#[]⟩) 1 16 j45 hi hz hs1 hby rfl (by omega) v l.length _ hs (hO.alloc _).1 ⟨W.heap.size,0,none⟩ 1 1 [.string y] hx rfl ?_ (by simp[Value.oneCell']) (by unfold maxLen;omega) (by omega) (by have:=hE.size;simp;omega) ?_
 · exact cell_one_new _ _ _
 · intro v' w' h1 hg' _;have hE1:=hE.alloc (.cells #[.string y] 9);refine hK v' w' ⟨by simpa using h1,by simp;omega⟩ (hE1.grown hg' fun k hk=>(hO.blk k hk).1)
end
theorem bs5(v:Value)(l:List ByteArray)(s:ByteArray)(w:World)(h:S5 w v l)(hs:s.size≤1)(hl:∀i,i<l.length→(m6 l i).size≤13) :
 Calls Tryz.prog 210 #[v,.string s] w fun e w'=>e=.returned (.string (jn s (m6 l) l.length))∧w=w':=by
 obtain⟨ao,c,rfl,hlen,hcell⟩:=h;have hix:∀(i:Nat) W,i<l.length→∃g,ao=some ⟨g,0,none⟩∧(Instr.indexAt 24 (.slice ao l.length c) (.int .i64 (i:Int))).run Tryz.prog W=.ok (.pointer (some ⟨g,i,none⟩)) W:=by
  intro i W hi;obtain⟨g,rfl,-⟩:=hcell i hi;refine⟨g,rfl,?_⟩;rw[run_indexAt_slice (h:=elS),if_pos (by omega),szS];simp[Result.andThen,Addr.add_lit]
 have Hl:=Lib.hid hl;clear hl;go_enter Tryz.func210,Tryz.ntmps210;go_wp2_with fail;go_loop [5,10] (fun t i=>∃(k:Nat) (u:ByteArray),k≤l.length∧i=.int .i64 k∧t=.string u∧Hid (u=jn s (m6 l) k)) (fun _ i=>l.length - (intOf i).toNat);case atStart=>exact⟨0,_,by omega,rfl,rfl,Lib.hid rfl⟩
 case round =>
  obtain⟨k,u,hk,rfl,rfl,Hu⟩:=hrel;have hus:u.size≤14*k:=by rw[Hu.out];exact Q1 _ _ hs k fun i hi=>Hl.out i (by omega)
  by_cases hlt:k<l.length
  · obtain⟨g,hg,hix1⟩:=hix k w hlt;obtain⟨g',hg',hck⟩:=hcell k hlt;have hgg:g'=g:=(by rw[hg] at hg';simp only[Option.some.injEq,Addr.mk.injEq,and_true] at hg';exact hg'.symm);subst hgg;clear hix hcell;subst hg;have hys:=Hl.out k hlt;obtain⟨y,hy⟩:∃y,y=m6 l k:=⟨_,rfl⟩;rw[←hy] at hck hys;have Hy:=Lib.hid hy;clear hy;by_cases hk0:0<k
    · have hk1:(0:Int)<k:=(by omega);go_wp2_with fail;go_round;(case rel=>exact⟨k+1,_,by omega,by go_num,rfl,Lib.hid (by rw[T9 _ _ hk0,←Hu.out,Hy.out])⟩);case measure=>(simp[intOf];omega)
    · have hk1:k=0:=(by omega);subst hk1;go_wp2_with fail;go_round;(case rel=>exact⟨1,_,by omega,rfl,rfl,Lib.hid (by rw[T0,Hu.out,Hy.out];rfl)⟩);case measure=>(simp[intOf];omega)
  · have hkl:k=l.length:=(by omega);subst hkl;clear hix hcell;go_wp2_with fail;go_ret;exact⟨d9 Hu.out,rfl⟩
end Go.Zz
namespace Go.Zz
open Go.RowKit Go.Proofs
set_option maxHeartbeats 400000
set_option maxRecDepth 4000
theorem bb1(s:ByteArray)(f g:Nat→ByteArray):∀k,(∀i,i<k→f i=g i)→jn s f k=jn s g k:=by
 intro k;induction k with
 | zero=>intro _;rfl
 | succ k ih=>intro h;unfold jn;rw[ih fun i hi=>h i (by omega),h k (by omega)]
theorem b50(l:List Int)(i:Nat)(h:i<l.length):m6 (l.map j0) i=j0 (nth l i):=by
 simp[m6,nth,List.getD,h]
def I0(l:List Int):ByteArray:=if l.length=0 then ⟨#[110,111,110,101]⟩ else jn P5 (fun i=>j0 (nth l i)) l.length
theorem c54(l:List Int)(k:Nat)(h:k<l.length):(l.take (k+1)).map j0=(l.take k).map j0++[j0 (nth l k)]:=by
 rw[List.take_add_one,List.map_append];simp[nth,List.getD,h]
theorem c05(v:Value)(l:List Int)(w:World)(h:c8 w v l)(hr:∀i,i<l.length → -1≤nth l i∧nth l i<1000000000000)(hl:l.length≤1000) :
 Calls Tryz.prog 110 #[v] w fun e w'=>e=.returned (.string (I0 l))∧Ext w w':=by
 obtain⟨ao,c,adr,rfl,hlen,hadr,hcell⟩:=h.op;have hix:=j6 (c:=c) elI szI hadr;clear hadr h;have Hr:=Lib.hid hr;clear hr;have hO0:=b62 (Ext.refl w);have hE0:=(Ext.refl w).alloc (.cells #[] 9);by_cases h0:l.length=0
 · have He:Hid (I0 l=⟨#[110,111,110,101]⟩):=Lib.hid (by unfold I0;rw[if_pos h0]);go_enter Tryz.func110,Tryz.ntmps110;go_wp2_with fail;go_ret;exact⟨d9 He.out.symm,Ext.refl _⟩
 · have h00:((l.length:Int) == 0)=false:=(by rw[beq_eq_false_iff_ne];omega);have He:Hid (I0 l=jn P5 (m6 (l.map j0)) (l.map j0).length):=Lib.hid (by
    unfold I0;rw[if_neg h0,List.length_map];exact bb1 _ _ _ _ fun i hi=>(b50 l i hi).symm)
   go_enter Tryz.func110,Tryz.ntmps110;go_wp2_with fail;go_loopw [3,12] (fun v i wr=>∃k:Nat,k≤l.length∧i=.int .i64 k∧J0 w wr v ((l.take k).map j0)∧Ext w wr) (fun _ i _=>l.length - (intOf i).toNat);(case atStart=>exact⟨0,by omega,rfl,hO0,hE0⟩);case round =>
    obtain⟨k,hk,rfl,hO,hE⟩:=hrel;by_cases hlt:k<l.length
    · have hck:=hcell k _ hlt hE;have hrk:=Hr.out k hlt;have hcI:=p5 (nth l k) hrk;have hlk:((l.take k).map j0).length<1000000:=(by rw[List.length_map,List.length_take];omega);go_wp2_with (first | (go_at_call 98;with_reducible refine (hcI _).mono ?_;rintro e wc ⟨rfl,hEc⟩) | (at_builtin;refine O0 rfl _ _ rfl w _ _ _ _ (hO.ext hEc) (hE.trans hEc) hlk rfl rfl ?_;intro v1 w1 hO1 hE1));go_roundw;(case rel=>exact⟨k+1,by omega,by go_num,by rw[c54 _ _ hlt];exact hO1,hE1⟩);case measure=>(simp[intOf];omega)
    · have hkl:k=l.length:=(by omega);subst hkl;rw[List.take_length] at hO;have hS:=hO.strs;have hc:=bs5 _ (l.map j0) P5 _ hS (by decide) (fun i hi=>by
       rw[List.length_map] at hi
       rw[b50 l i hi];exact j5 (Hr.out i hi))
      go_wp2_with (refine hc.mono ?_;rintro e w1 ⟨rfl,rfl⟩);go_ret;exact⟨d9 (by rw[He.out,List.length_map]),hE⟩
theorem di8(l:List Int)(h:l.length≤40):o0 l=I0 (l.map p9):=by
 unfold o0 I0;rw[List.length_map];by_cases h0:l.length=0
 · rw[if_pos (Or.inl h0),if_pos h0]
 · rw[if_neg (by omega),if_neg h0];exact bb1 _ _ _ _ fun i hi=>by simp[clS,nth,List.getD,hi]
theorem db7(l:List Int)(k:Nat)(h:k<l.length):(l.take (k+1)).map p9=(l.take k).map p9++[p9 (nth l k)]:=by
 rw[List.take_add_one,List.map_append];simp[nth,List.getD,h]
theorem cl1(l:List Int)(i:Nat)(h:i<(l.map p9).length) : -1≤nth (l.map p9) i∧nth (l.map p9) i<1000000000000:=by
 rw[List.length_map] at h;have e:nth (l.map p9) i=p9 (nth l i):=by simp[nth,List.getD,h]
 rw[e];exact B9 _
theorem K0(v:Value)(l:List Int)(w:World)(h:c8 w v l) :
 Calls Tryz.prog 278 #[v] w fun e w'=>e=.returned (.string (o0 l))∧Ext w w':=by
 obtain⟨ao,c,adr,rfl,hlen,hadr,hcell⟩:=h.op;have hix:=j6 (c:=c) elI szI hadr;clear hadr h;have hO0:=q5 (TI:=3) (n:=0) (by omega) (Ext.refl w) [] rfl;have hE0:=(Ext.refl w).alloc (.cells #[] 3);by_cases h0:40<l.length
 · have He:Hid (o0 l=⟨#[110,111,110,101]⟩):=Lib.hid (by unfold o0;rw[if_pos (Or.inr h0)]);have h1:(40:Int)<(l.length:Int):=(by omega);go_enter Tryz.func278,Tryz.ntmps278;go_wp2_with fail;go_ret;exact⟨d9 He.out.symm,Ext.refl _⟩
 · have h1:¬(40:Int)<(l.length:Int):=(by omega);have h2:decide ((40:Int)<(l.length:Int))=false:=(by simp;omega);have He:=Lib.hid (di8 l (by omega));go_enter Tryz.func278,Tryz.ntmps278;go_wp2_with fail;go_loopw [3,12] (fun v i wr=>∃k:Nat,k≤l.length∧i=.int .i64 k∧Own 3 w wr v ((l.take k).map p9)∧Ext w wr) (fun _ i _=>l.length - (intOf i).toNat);(case atStart=>exact⟨0,by omega,rfl,hO0,hE0⟩);case round =>
    obtain⟨k,hk,rfl,hO,hE⟩:=hrel;by_cases hlt:k<l.length
    · have hck:=hcell k _ hlt hE;have hcI:=R4 (nth l k);have hlk:((l.take k).map p9).length<17592186044416:=(by rw[List.length_map,List.length_take];omega);go_wp2_with (first | (go_at_call 277;with_reducible refine (hcI _).mono ?_;rintro e wc ⟨rfl,hEc⟩;subst hEc) | (at_builtin;refine K4 slI rfl _ _ rfl w _ _ _ _ hO hE hlk rfl rfl ?_;intro v1 w1 hO1 hE1));go_roundw;(case rel=>exact⟨k+1,by omega,by go_num,by rw[db7 _ _ hlt];exact hO1,hE1⟩);case measure=>(simp[intOf];omega)
    · have hkl:k=l.length:=(by omega);subst hkl;rw[List.take_length] at hO;have hI:=hO.ints;have hc:=c05 _ (l.map p9) _ hI (fun i hi=>cl1 l i hi) (by rw[List.length_map];omega);go_wp2_with (refine hc.mono ?_;rintro e w1 ⟨rfl,hE1⟩);go_ret;exact⟨d9 He.out.symm,hE.trans hE1⟩
end Go.Zz
namespace Go.Zz
open Go.RowKit Go.Proofs
set_option maxHeartbeats 400000
theorem N7(v:Value)(l:List Int)(w:World)(h:c8 w v l) :
 Calls Tryz.prog 99 #[.agg #[v]] w fun e w'=>e=.returned (.int .i64 (b71 l))∧Ext w w':=by
 have hI:=h;obtain⟨ao,c,adr,rfl,hlen,hadr,hcell⟩:=h.op;have hix:=j6 (c:=c) elI szI hadr;clear hadr;have hE0:=(Ext.refl w).alloc (.cells #[(.slice ao l.length c)] 28);have hE:=Ext.refl (w.alloc (.cells #[(.slice ao l.length c)] 28));have hb:=d7 w (.slice ao l.length c) 28;have hg:∀W,Ext (w.alloc (.cells #[(.slice ao l.length c)] 28)) W→c8 W (.slice ao l.length c) l:=fun W hW=>h.ext (hE0.trans hW);clear h;cases hgr:c9 l
 · have Hgr:=Lib.hid hgr;go_enter Tryz.func99,Tryz.ntmps99;go_wp2_with (first | (go_at_call 94;refine cx (l0 _ _ _ (hg _ hE)) hE ?_;clear hE;intro w' hE));go_ret;exact⟨m8 (c79 Hgr.out).symm,hE0.trans hE⟩
 · have Hgr:=Lib.hid hgr;go_enter Tryz.func99,Tryz.ntmps99;go_wp2_with (first | (go_at_call 94;refine cx (l0 _ _ _ (hg _ hE)) hE ?_;clear hE;intro w' hE));clear hgr;have h3:=C0 Hgr.out;have hck:∀i,i<l.length→World.cell? _ (adr i)=_:=fun i hi=>hcell i _ hi (hE0.trans hE);go_loop [3,12] (fun n i=>∃k:Nat,k≤l.length∧n=.int .i64 (C4 (l.take k))∧i=.int .i64 k) (fun _ i=>l.length - (intOf i).toNat);(case atStart=>exact⟨0,by omega,rfl,rfl⟩);case round =>
    obtain⟨k,hk,rfl,rfl⟩:=hrel;obtain⟨hb0,hb1⟩:=U2 k l hk (by omega) (fun j hj=>E2 Hgr.out (by omega))
    by_cases hlt:k<l.length
    · have hin:=E2 Hgr.out hlt;obtain⟨hm1,hm2⟩:=bm7 hb0 hb1 hin.1 hin.2;go_wp2_with fail;go_round;(case rel=>exact⟨k+1,by omega,by rw[P6 l k hlt],by go_num⟩);case measure=>(simp[intOf];omega)
    · have hkl:k=l.length:=(by omega);subst hkl;rw[List.take_length] at *;go_wp2_with fail;go_ret;exact⟨m8 (by unfold b71;rw[if_pos Hgr.out]),hE0.trans hE⟩
theorem m4(v:Value)(l:List Int)(w:World)(h:c8 w v l)(Hgr:Hid (c9 l=true)) :
 Calls Tryz.prog 43 #[.agg #[v]] w fun e w'=>e=.returned (.int .i64 (ord l:Int))∧Ext w w':=by
 obtain⟨ao,c,adr,rfl,hlen,hadr,hcell⟩:=h.op;have hix:=j6 (c:=c) elI szI hadr;clear hadr h;have hE0:=(Ext.refl w).alloc (.cells #[.slice ao l.length c] 28);have h3:=C0 Hgr.out;go_enter Tryz.func43,Tryz.ntmps43;go_wp2_with fail;go_loop [3,4] (fun n i=>∃k:Nat,k≤l.length∧n=.int .i64 (C4 (l.take k))∧i=.int .i64 k) (fun _ i=>l.length - (intOf i).toNat);case atStart=>exact⟨0,by omega,rfl,rfl⟩
 case round =>
  obtain⟨k,hk,rfl,rfl⟩:=hrel;obtain⟨hb0,hb1⟩:=U2 k l hk (by omega) (fun j hj=>E2 Hgr.out (by omega))
  by_cases hlt:k<l.length
  · have hck:=hcell k _ hlt hE0;have hin:=E2 Hgr.out hlt;obtain⟨hm1,hm2⟩:=bm7 hb0 hb1 hin.1 hin.2;go_wp2_with fail;go_round;(case rel=>exact⟨k+1,by omega,by rw[P6 l k hlt],by go_num⟩);case measure=>(simp[intOf];omega)
  · have hkl:k=l.length:=(by omega);subst hkl;rw[List.take_length] at *;go_wp2_with fail;go_ret;exact⟨m8 (bm9 Hgr.out).symm,hE0⟩
theorem H6(v:Value)(l:List Int)(a:Int)(w:World)(h:c8 w v l) :
 Calls Tryz.prog 105 #[.agg #[v],.int .i64 a] w fun e w'=>e=.returned (.bool (d8 l a))∧Ext w w':=by
 have hE0:=(Ext.refl w).alloc (.cells #[v] 28);have hE:=Ext.refl (w.alloc (.cells #[v] 28));have hb:=d7 w v 28;have hg:∀W,Ext (w.alloc (.cells #[v] 28)) W→c8 W v l:=fun W hW=>h.ext (hE0.trans hW);clear h;cases hgr:c9 l
 · have Hgr:=Lib.hid hgr;go_enter Tryz.func105,Tryz.ntmps105;go_wp2_with (first | (go_at_call 94;refine cx (l0 _ _ _ (hg _ hE)) hE ?_;clear hE;intro w' hE));go_ret;exact⟨l9 (by unfold d8;rw[Hgr.out];rfl),hE0.trans hE⟩
 · have Hgr:=Lib.hid hgr;have hord:=Z9 hgr;have hsh:=p0 (n:=ord l) (by have:=l8 hgr;omega);by_cases h0:0≤a
   · go_enter Tryz.func105,Tryz.ntmps105;go_wp2_with (first | (go_at_call 94;refine cx (l0 _ _ _ (hg _ hE)) hE ?_;clear hE;intro w' hE) | (go_at_call 99;refine cx (N7 _ _ _ (hg _ hE)) hE ?_;clear hE;intro w' hE));go_ret;exact⟨l9 (by have:=di0 (ord l);unfold d8;rw[Hgr.out,Bool.eq_iff_iff];simp;omega),hE0.trans hE⟩
   · go_enter Tryz.func105,Tryz.ntmps105;go_wp2_with (first | (go_at_call 94;refine cx (l0 _ _ _ (hg _ hE)) hE ?_;clear hE;intro w' hE) | (go_at_call 99;refine cx (N7 _ _ _ (hg _ hE)) hE ?_;clear hE;intro w' hE));go_ret;exact⟨l9 (by unfold d8;rw[Hgr.out];simp;omega),hE0.trans hE⟩
theorem M2(v:Value)(l:List Int)(a:Int)(w:World)(h:c8 w v l) :
 Calls Tryz.prog 46 #[.agg #[v],.int .i64 a] w fun e w'=>e=.returned (.bool (d8 l a))∧Ext w w':=by
 have hE0:=(Ext.refl w).alloc (.cells #[v] 28);have hE:=Ext.refl (w.alloc (.cells #[v] 28));have hb:=d7 w v 28;have hg:∀W,Ext (w.alloc (.cells #[v] 28)) W→c8 W v l:=fun W hW=>h.ext (hE0.trans hW);clear h;cases hgr:c9 l
 · have Hgr:=Lib.hid hgr;go_enter Tryz.func46,Tryz.ntmps46;go_wp2_with (first | (go_at_call 42;refine cx (q9 _ _ _ (hg _ hE)) hE ?_;clear hE;intro w' hE));go_ret;exact⟨l9 (by unfold d8;rw[Hgr.out];rfl),hE0.trans hE⟩
 · have Hgr:=Lib.hid hgr;have hsh:=p0 (n:=ord l) (by have:=l8 hgr;omega);have hp1:=R5 (ord l);have hp2:=b04 (l8 hgr).2;go_enter Tryz.func46,Tryz.ntmps46;go_wp2_with (first | (go_at_call 42;refine cx (q9 _ _ _ (hg _ hE)) hE ?_;clear hE;intro w' hE) | (go_at_call 43;refine cx (m4 _ _ _ (hg _ hE) (Hgr)) hE ?_;clear hE;intro w' hE) | (go_at_call 164;refine (U8 _ _ _ _).mono ?_;rintro e w' ⟨rfl,rfl⟩));go_ret;exact⟨l9 (by have:=di0 (ord l);unfold d8 inB;rw[Hgr.out,Bool.eq_iff_iff];simp;omega),hE0.trans hE⟩
theorem E0(a:Nat)(ha:a<2 ^ 24)(w:World) :
 Calls Tryz.prog 107 #[.int .i64 a] w fun e w'=>e=.returned (.int .i64 (cnt a:Int))∧w=w':=by
 have hc:=p7 a;go_enter Tryz.func107,Tryz.ntmps107;go_wp2_with fail;go_loop [0,3] (fun x n=>∃b m:Nat,b<2 ^ 24∧m+cnt b=cnt a∧x=.int .i64 b∧n=.int .i64 m) (fun x _=>(intOf x).toNat);case atStart=>exact⟨a,0,ha,by omega,rfl,rfl⟩
 case round =>
  obtain⟨b,m,hb,hm,rfl,rfl⟩:=hrel;have Hm:=Lib.hid hm;have hm':m≤24:=by omega
  clear hm;by_cases h0:b=0
  · subst h0;go_wp2_with fail;go_ret;exact⟨m8 (by have:=Hm.out;rw[S8] at this;omega),rfl⟩
  · have hne:((b:Int) != 0)=true:=(by simp;omega);have hb2:b<16777216:=hb;have e1:(b:Int) - 1=((b - 1:Nat):Int):=(by omega);have hand:Z6 (b:Int) ((b:Int) - 1)=((b &&& (b - 1):Nat):Int):=(by rw[e1];exact W9 (by omega) (by omega));clear e1;go_wp2_with fail;go_round;(case rel=>exact⟨b &&& (b - 1),m+1,Nat.and_lt_two_pow _ (by omega),by have:=cp5 (by omega:0<b) hb;have:=Hm.out;omega,rfl,by go_num⟩);case measure=>(simp[intOf];have:=Nat.and_le_right (n:=b) (m:=b - 1);omega)
theorem o9(a:Nat)(ha:a<2 ^ 24)(w:World) :
 Calls Tryz.prog 66 #[.int .i64 a] w fun e w'=>e=.returned (.int .i64 (cnt a:Int))∧w=w':=by
 have hc:=p7 a;go_enter Tryz.func66,Tryz.ntmps66;go_wp2_with fail;go_loop [3,4] (fun n x=>∃b m:Nat,b<2 ^ 24∧m+cnt b=cnt a∧x=.int .i64 b∧n=.int .i64 m) (fun _ x=>(intOf x).toNat);case atStart=>exact⟨a,0,ha,by omega,rfl,rfl⟩
 case round =>
  obtain⟨b,m,hb,hm,rfl,rfl⟩:=hrel;have Hm:=Lib.hid hm;have hm':m≤24:=by omega
  clear hm;by_cases h0:b=0
  · subst h0;go_wp2_with fail;go_ret;exact⟨m8 (by have:=Hm.out;rw[S8] at this;omega),rfl⟩
  · have hpos:0<(b:Int):=(by omega);have hb2:b<16777216:=hb;have hand:Z6 (b:Int) 1=((b % 2:Nat):Int):=b10 (by omega);have hshr:cc3 (b:Int) 1=((shr b 1:Nat):Int):=P3 (a:=b) (n:=1) (by omega);have hmod:b % 2≤1:=(by omega);go_wp2_with fail;go_round;(case rel=>exact⟨b / 2,m+b % 2,by omega,by have:=cp6 b hb;have:=Hm.out;omega,by rw[d71],by go_num⟩);case measure=>(simp[intOf,d71];omega)
end Go.Zz
namespace Go.Zz
open Go.RowKit Go.Proofs
set_option maxHeartbeats 400000
theorem I9(a:Nat)(ha:a<2 ^ 24)(w:World) :
 Calls Tryz.prog 214 #[.int .i64 a] w fun e w'=>∃v,e=.returned v∧Own 3 w w' v (d6 (j1 a))∧Ext w w':=by
 have hO0:=q5 (TI:=3) (n:=0) (by omega) (Ext.refl w) [] rfl;have hE0:=(Ext.refl w).alloc (.cells #[] 3);go_enter Tryz.func214,Tryz.ntmps214;go_wp2_with fail;go_loopw [3,4] (fun v x wr=>∃k:Nat,k≤24∧x=.int .i64 k∧Own 3 w wr v (d6 (B8 a k))∧Ext w wr) (fun _ x _=>24 - (intOf x).toNat);case atStart=>exact⟨0,by omega,rfl,hO0,hE0⟩
 case round =>
  obtain⟨k,hk,rfl,hO,hE⟩:=hrel;have hsh:=P3 (a:=a) (n:=k) (by omega);by_cases h0:shr a k=0
  · have he:=Lib.hid (P8 hk (bn6.1 h0));have h0':((shr a k:Nat):Int)=0:=(by rw[h0];rfl);clear h0;go_wp2_with fail;go_ret;exact⟨_,rfl,by rw[←he.out];exact hO,hE⟩
  · have hlt:=ce5 h0 ha;have hne:=ci3 h0;have hbt:=b15 (a:=a) (n:=k) (by omega) (by omega);have hs:=Lib.hid (E7 a k);have hln:(d6 (B8 a k)).length≤24:=(by rw[j8];have:=bg0 a k;omega);clear h0;cases hb:a.testBit k
    · rw[hb] at hbt;have Hb:=Lib.hid hb;clear hb;go_wp2_with fail;go_roundw;(case rel=>exact⟨k+1,by omega,by go_num,by rw[hs.out,Hb.out];simpa using hO,hE⟩);case measure=>(simp[intOf];omega)
    · rw[hb] at hbt;have Hb:=Lib.hid hb;clear hb;go_wp2_with (at_builtin;refine K4 slI rfl _ _ rfl w _ _ _ _ hO hE (by omega) rfl rfl ?_;intro v1 w1 hO1 hE1);go_roundw;(case rel=>exact⟨k+1,by omega,by go_num,by rw[hs.out,Hb.out];simpa[J3] using hO1,hE1⟩);case measure=>(simp[intOf];omega)
theorem L8(a:Nat)(ha:a<2 ^ 24)(w:World) :
 Calls Tryz.prog 165 #[.int .i64 a] w fun e w'=>∃v,e=.returned v∧Own 3 w w' v (d6 (j1 a))∧Ext w w':=by
 have hO0:=q5 (TI:=3) (n:=0) (by omega) (Ext.refl w) [] rfl;have hE0:=(Ext.refl w).alloc (.cells #[] 3);go_enter Tryz.func165,Tryz.ntmps165;go_wp2_with fail;go_loopw [3,4,5] (fun v i x wr=>∃k:Nat,k≤24∧i=.int .i64 k∧x=.int .i64 ((shr a k:Nat):Int)∧Own 3 w wr v (d6 (B8 a k))∧Ext w wr) (fun _ i _ _=>24 - (intOf i).toNat);case atStart=>exact⟨0,by omega,rfl,rfl,hO0,hE0⟩
 case round =>
  obtain⟨k,hk,rfl,rfl,hO,hE⟩:=hrel;by_cases h0:shr a k=0
  · have he:=Lib.hid (P8 hk (bn6.1 h0));have h0':((shr a k:Nat):Int)=0:=(by rw[h0];rfl);clear h0;go_wp2_with fail;go_ret;exact⟨_,rfl,by rw[←he.out];exact hO,hE⟩
  · have hlt:=ce5 h0 ha;have hpos:0<((shr a k:Nat):Int):=(by omega);have hbt:=b15 (a:=a) (n:=k) (by omega) (by omega);have hsh:cc3 ((shr a k:Nat):Int) 1=((shr a (k+1):Nat):Int):=(by rw[←dx7];exact P3 (n:=1) (by omega));have hs:=Lib.hid (E7 a k);have hln:(d6 (B8 a k)).length≤24:=(by rw[j8];have:=bg0 a k;omega);clear h0;cases hb:a.testBit k
    · rw[hb] at hbt;have Hb:=Lib.hid hb;clear hb;go_wp2_with fail;go_roundw;(case rel=>exact⟨k+1,by omega,by go_num,rfl,by rw[hs.out,Hb.out];simpa using hO,hE⟩);case measure=>(simp[intOf];omega)
    · rw[hb] at hbt;have Hb:=Lib.hid hb;clear hb;go_wp2_with (at_builtin;refine K4 slI rfl _ _ rfl w _ _ _ _ hO hE (by omega) rfl rfl ?_;intro v1 w1 hO1 hE1);go_roundw;(case rel=>exact⟨k+1,by omega,by go_num,rfl,by rw[hs.out,Hb.out];simpa[J3] using hO1,hE1⟩);case measure=>(simp[intOf];omega)
end Go.Zz
