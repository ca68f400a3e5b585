/- What the functions on groups and counts return: first part. -/
import Derived.Test.YtjhoafjeopcheaaGreatWo
import Derived.Laws.BytesArg
import Derived.BigRegion
set_option linter.all false
set_option maxHeartbeats 1000000
set_option maxRecDepth 4000
namespace Go.Zz
open Go.RowKit Go.Proofs
variable(c x n:Int)(v:Value)(s:Ba)(l:LI)(k m f i:Nat)(y:Int)(p:Ba){g:Nat}{P W w:World}
theorem elI:Tryz.prog.underlying 40=some (.slice (Tryz.prog.elem 40)):=by kernel_rfl
theorem szI:∀w,(sizeOf (Tryz.prog.elem 40)).run Tryz.prog w=.ok 1 w:=fun w=>by kernel_rfl
theorem H8(l J:Int)(w:World):Calls Tryz.prog 168 #[vi x,vi l,vi J] w fun e W=>e=.returned (.bool (inB x l J))/\w=W:=by
 go_in;go_wp2;all_goals(go_ret;refine⟨?_,rfl⟩;unfold inB;congr 2;simp;omega)
theorem P6(l J:Int)(w:World):Calls Tryz.prog 141 #[vi x,vi l,vi J] w fun e W=>e=.returned (.bool (inB x l J))/\w=W:=by
 go_in;go_wp2;all_goals(go_ret;refine⟨?_,rfl⟩;unfold inB;congr 2;simp;omega)
theorem o9(w:World)(h:c8 w v l):Calls Tryz.prog 92 #[.agg #[v]] w (RE w (.bool (d7 l))):=by
 obtain⟨O,c,r,rfl,L,d,C⟩:=h.op;have x:=j2 (c:=c) elI szI d;clear d h;have F:=(er w).alloc (.cells #[.slice O l.length c] 42);by_cases T:l.length<=3
 . go_in;go_wp2_with fail;go_loop [3,13] (fun n i=>∃k:Nat,k<=l.length/\(∀j,j<k->2<=nth l j/\nth l j<=24)/\n=vi (C5 (l.take k))/\i=vi k) (fun _ i=>l.length-(intOf i).toNat);exact⟨0,om,om,rfl,rfl⟩;case round =>
    obtain⟨k,V,A,rfl,rfl⟩:=hrel;obtain⟨B,b⟩:=b54 k l V om A;by_cases U:k<l.length
    . have Z:=C k _ U F;by_cases H:2<=nth l k/\nth l k<=24
      . have I:=V2.2 H;obtain⟨m,M⟩:=c95 B b H.1 H.2;go_wp2_with(first|(go_at_call 168;refine(H8 _ _ _ _).mono ?_;rintro e W⟨rfl,rfl⟩));go_round;exact⟨k+1,om,fun j J=>by by_cases e:j=k;(subst e;exact H);exact A j om,by rw[Z9 l k U],zg⟩;exact zm1
      . have I:=c86.2 H;go_wp2_with(first|(go_at_call 168;refine(H8 _ _ _ _).mono ?_;rintro e W⟨rfl,rfl⟩));go_ret;exact⟨j1 (ch5 U H).symm,F⟩
    . have K:k=l.length:=om;have E:=zh (di1 T (fun j J=>A j om));clear A;subst K;rw[oz]at *;go_wp2_with fail;go_ret;exact⟨j1 E.o.symm,F⟩
 go_in;go_wp2_with fail;go_ret;exact⟨j1 (ch4 om).symm,F⟩
theorem C4(w:World)(h:c8 w v l):Calls Tryz.prog 52 #[.agg #[v]] w (RE w (.bool (d7 l))):=by
 obtain⟨O,c,r,rfl,L,d,C⟩:=h.op;have x:=j2 (c:=c) elI szI d;clear d h;have F:=(er w).alloc (.cells #[.slice O l.length c] 42);go_in;go_wp2_with fail;go_loop [3,4] (fun n i=>∃k:Nat,k<=l.length/\k<=3/\(∀j,j<k->2<=nth l j/\nth l j<=24)/\n=vi (C5 (l.take k))/\i=vi k) (fun _ i=>l.length-(intOf i).toNat);exact⟨0,om,om,om,rfl,rfl⟩
 obtain⟨k,V,f,A,rfl,rfl⟩:=hrel;obtain⟨B,b⟩:=b54 k l V f A;by_cases U:k<l.length
 . have Z:=C k _ U F;by_cases H:2<=nth l k/\nth l k<=24
   . have I:=V2.2 H;obtain⟨m,M⟩:=c95 B b H.1 H.2;by_cases T:k<3
     . go_wp2_with(first|(go_at_call 141;refine(P6 _ _ _ _).mono ?_;rintro e W⟨rfl,rfl⟩));go_round;exact⟨k+1,om,om,fun j J=>by by_cases e:j=k;(subst e;exact H);exact A j om,by rw[Z9 l k U],zg⟩;exact zm1
     go_wp2_with(first|(go_at_call 141;refine(P6 _ _ _ _).mono ?_;rintro e W⟨rfl,rfl⟩));go_ret;exact⟨j1 (ch4 om).symm,F⟩
   have I:=c86.2 H;go_wp2_with(first|(go_at_call 141;refine(P6 _ _ _ _).mono ?_;rintro e W⟨rfl,rfl⟩));go_ret;exact⟨j1 (ch5 U H).symm,F⟩
 have K:k=l.length:=om;have E:=zh (di1 om (fun j J=>A j om));clear A;subst K;rw[oz]at *;go_wp2_with fail;go_ret;exact⟨j1 E.o.symm,F⟩
theorem lz5:(Tryz.prog.info? 3).map (fun i=>(i.zero,i.size,i.bytes))=some (some (vi 0),1,8):=by kernel_rfl
theorem slI:IntSl Tryz.prog 40 3:=⟨by kernel_rfl,info_parts lz5⟩
def lg4(k:Int)(n:Nat):LI:=(List.range n).map (fun i:Nat=>k+(i:Int))
theorem Own.stored_grown{T:TypeId}{c n:Nat}{l:LI}(h:Own T P w (.slice (some (aD g 0)) n c) l)(H:l.length=n)(j:Nat)(y:Int):Own T P (w.setCell (aD g j) (vi y)) (.slice (some (aD g 0)) n c) (l.set j y)/\w.grownBy (w.setCell (aD g j) (vi y)) (some g):=by
 subst H;exact⟨h.stored j y,(World.ownsRow.stored h.1 j (vi y)).2⟩
theorem b15{a b c:World}{row:Option Nat}(h:a.grownBy b row)(k:b.grownBy c row):a.grownBy c row :=
 ⟨k.os.trans h.os,k.tape.trans h.tape,k.output.trans h.output,nle h.size k.size,fun i J n=>(k.block i (nlt J h.size) n).trans (h.block i J n)⟩
theorem bw9(w:World)(y:Int):
 (convert 24 9 (.slice (some (aD w.heap.size 0)) 1 1)).run Tryz.prog (w.alloc (.cells #[.int .u8 y] 5))=.ok (.string (strOfNums [y])) (w.alloc (.cells #[.int .u8 y] 5)) :=
 run_convert_bytes_arg (P:=Tryz.prog) _ 24 5 (by rfl) (by rfl) w.heap.size 0 1 1 [y] rfl (fun i J=>by
  have:i=0:=om
  subst this
  simp) _ (by rfl)
def W8(m:Nat)(s:Ba):Ba:=if m=0 then s else W8 (m/10) (strOfNums [48+(m%10:Nat)]++s)
theorem bx5:W8 0 s=s:=by rw[W8,if_pos rfl]
theorem bu6{m:Nat}(h:¬m=0):W8 m s=W8 (m/10) (strOfNums [48+(m%10:Nat)]++s):=by rw[W8,if_neg h]
def j8(n:Int):Ba:=if n=0 then⟨#[48]⟩else if n<0 then⟨#[45]⟩++W8 n.natAbs ⟨#[]⟩else W8 n.natAbs ⟨#[]⟩
theorem dv8{n:Nat}(h:0<n):j8 n=W8 n ⟨#[]⟩:=by unfold j8;rw[if_neg om,if_neg om];rfl
theorem dd1(n:Nat)(N:n<1000000000000)(p:0<n)(w:World):
 Calls Tryz.prog 97 #[vi n] w (RE w (.string (j8 n))):=by
 have T:¬(n:Int)=0:=om;have U:¬(n:Int)<0:=om;have f:=zh (dv8 p);go_in;go_wp2_with fail;go_loopw [0,3] (fun d s wr=>∃m:Nat,m<1000000000000/\d=vi m/\Ext w wr/\∃t:Ba,s=.string t/\t.size+m<=n/\Hid (W8 m t=j8 n)) (fun d _ _=>(intOf d).toNat);exact⟨n,N,rfl,er _,_,rfl,by simp[ByteArray.size],zh f.o.symm⟩
 obtain⟨m,k,rfl,E,t,rfl,z,H⟩:=hrel;by_cases h:m=0
 . subst h;go_wp2_with fail;go_ret;exact⟨j5 (by rw[<-H.o,bx5]),E⟩
 have r:¬(m:Int)=0:=om;obtain⟨R,v⟩:∃R:Nat,(m:Int)%10=R:=⟨m%10,om⟩;have V:R<10:=om;obtain⟨q,u⟩:∃q:Nat,(m:Int)/10=q:=⟨m/10,om⟩;have O:=zh (show R=m%10 by omega);have M:=zh (show q=m/10 by omega);have c:=bw9 wr (48+R);have S:(strOfNums [48+(R:Int)]).size=1:=strOfNums_size _;go_wp2_with fail;go_roundw;case rel =>
  have F:=M.o;have I:=O.o;exact⟨q,om,rfl,E.alloc _,_,rfl,by(rw[oe,S];omega),zh (by rw[<-H.o,bu6 t h,<-F,<-I])⟩
 have F:=M.o;(simp[intOf];omega)
theorem jf4:j8 (-1)=⟨#[45]⟩++(strOfNums [49]++⟨#[]⟩):=by
 unfold j8;rw[if_neg om,if_pos om];show _++W8 1 _=_;rw[bu6 _ om,bx5];rfl
theorem dn0(w:World):
 Calls Tryz.prog 97 #[vi (-1)] w (RE w (.string (j8 (-1)))):=by
 have f:=zh jf4;go_in;go_wp2_with fail;go_loopw [0,3] (fun d s wr=>Ext w wr/\((d=vi (-1)/\s=.string ⟨#[]⟩)\/(d=vi 0/\s=.string (strOfNums [49]++⟨#[]⟩)))) (fun d _ _=>(intOf d).natAbs);exact⟨er _,Or.inl ⟨rfl,rfl⟩⟩
 obtain⟨E,⟨rfl,rfl⟩|⟨rfl,rfl⟩⟩:=hrel
 . have c:=bw9 wr 49;have H:(strOfNums [(49:Int)]).size=1:=strOfNums_size _;go_wp2_with fail;go_roundw;exact⟨E.alloc _,Or.inr ⟨rfl,rfl⟩⟩;(simp[intOf])
 have H:(strOfNums [(49:Int)]++⟨#[]⟩).size=1:=(by rw[oe,strOfNums_size];rfl);obtain⟨t,h⟩:∃t,t=(strOfNums [(49:Int)]++⟨#[]⟩):=⟨_,rfl⟩;rw[<-h]at H f|-;go_wp2_with fail;go_ret;exact⟨j5 (by rw[f.o,h]),E⟩
theorem zz60{P:Prop}(h:P:=by go_in;go_wp2_with fail;go_ret;exact⟨j5 H.o.symm,er _⟩):P:=h
theorem o8(N: -1<=n/\n<1000000000000)(w:World):Calls Tryz.prog 97 #[vi n] w (RE w (.string (j8 n))):=by
 rcases (by omega:n = -1\/n=0\/0<n)with rfl|rfl|h;exact dn0 w;have e:j8 0=⟨#[48]⟩:=(by unfold j8;rw[if_pos rfl]);have H:=zh e;clear e;exact zz60;obtain⟨m,rfl⟩:=pl (show 0<=n by omega);exact dd1 m om om w
def V1(l:LI)(k:Nat):LI:=(List.range l.length).map fun i=>if i<k\/l.length<=i+k then nth l (l.length-1-i)else nth l i
theorem V8:(V1 l k).length=l.length:=by simp[V1]
theorem bl2(h:i<l.length):nth (V1 l k) i=if i<k\/l.length<=i+k then nth l (l.length-1-i)else nth l i:=by
 simp[V1,nth,h]
theorem dc3{a b:LI}(h:a.length=b.length)(u:∀i,i<a.length->nth a i=nth b i):a=b:=by
 apply List.ext_getElem h;intro i H r;have:=u i H;simpa[nth,H,r]using this
theorem jg9:nth (l.set k y) i=if i=k/\k<l.length then y else nth l i:=by
 unfold nth;by_cases h:i=k;subst h;by_cases r:i<l.length;simp[r];simp[r];simp[h,List.getElem?_set_ne (Ne.symm h)]
theorem cj6:V1 l 0=l:=dc3 (V8 _ _) fun i J=>by
 rw[V8]at J
 rw[bl2 _ _ _ J,if_neg om]
theorem cz1(h:l.length<=2*k+1):V1 l k=l.reverse:=dc3 (by rw[V8];simp) fun i J=>by
 rw[V8]at J
 have e:nth l.reverse i=nth l (l.length-1-i):=by
  rw[bk9 _ _ (by simpa using J),bk9 _ _ om];simp
 rw[bl2 _ _ _ J,e]
 split
 . rfl
 . rw[show l.length-1-i=i by omega]
theorem cj5(h:2*k+1<l.length):
 ((V1 l k).set k (nth (V1 l k) (l.length-1-k))).set (l.length-1-k) (nth (V1 l k) k)=V1 l (k+1):=dc3 (by simp[V8]) fun i J=>by
 simp only[ql,V8]at J
 rw[jg9,jg9,bl2 _ _ _ J,bl2 _ _ _ J,bl2 _ _ _ (show l.length-1-k<l.length by omega),bl2 _ _ _ (show k<l.length by omega)]
 simp only[ql,V8]
 by_cases H:i=l.length-1-k
 . rw[if_pos ⟨H,om⟩,if_neg om,if_pos om,H,show l.length-1-(l.length-1-k)=k by omega]
 . rw[if_neg om]
   by_cases r:i=k
   . rw[if_pos ⟨r,om⟩,if_neg om,if_pos om,r]
   . rw[if_neg om]
     by_cases T:i<k\/l.length<=i+k
     . rw[if_pos T,if_pos om]
     . rw[if_neg T,if_neg om]
theorem lz4:(Tryz.prog.info? 5).map (fun i=>(i.zero,i.size,i.bytes))=some (some (.int .u8 0),1,1):=by kernel_rfl
theorem m06:Tryz.prog.underlying 24=some (.slice 5):=by kernel_rfl
def T7(P w:World)(v:Value)(l:LI):Prop :=
 w.ownsRow P.heap.size 5 1 v l.length (l.map (Value.int .u8))/\l.length<=17592186044416
theorem T7.alloc{v:Value}{l:LI}(h:T7 P w v l)(o:Obj):T7 P (w.alloc o) v l:=⟨h.1.alloc o,h.2⟩
theorem T7.blk{v:Value}{l:LI}(h:T7 P w v l):∀k,v.ownBlock=some k->P.heap.size<=k/\k<w.heap.size:=h.1.lt
theorem T7.shape{v:Value}{l:LI}(h:T7 P w v l)(S:0<l.length):∃(g c:Nat),v=.slice (some (aD g 0)) l.length c/\l.length<=c/\P.heap.size<=g/\g<w.heap.size /\
  (∀i,i<l.length->w.cell? (aD g i)=some (.int .u8 (nth l i))/\w.frozen? (aD g i)=false):=by
 obtain⟨U,r⟩:=h;rcases U.2 with⟨rfl,L⟩|⟨g,cap,u,rfl,H,b,C,R⟩
 . omega
 . refine⟨g,cap,rfl,C,H,(Array.getElem?_eq_some_iff.1 b).1,fun i J=>⟨?_,World.ownsRow.frozenAt U i⟩⟩;rw[World.ownsRow.cellAt U i om];simp[nth,List.getD,J]
theorem ci8(E:Ext P w):T7 P (w.alloc (.cells #[] 5)) (.slice (some (aD w.heap.size 0)) 0 0) []:=by
 have:=qk (base:=P.heap.size) (e:=5) (size:=1) w #[] 0 E.size (by unfold maxLen;omega) zm;exact⟨by simpa using this,zm⟩
theorem T7.stored{c:Nat}{l:LI}(h:T7 P w (.slice (some (aD g 0)) l.length c) l)(j:Nat)(y:Int):T7 P (w.setCell (aD g j) (.int .u8 y)) (.slice (some (aD g 0)) l.length c) (l.set j y):=by
 have H:=(World.ownsRow.stored h.1 j (.int .u8 y)).1;refine⟨?_,by simpa using h.2⟩;simpa[List.map_set]using H
theorem T7.grown{c:Nat}{l:LI}(h:T7 P w (.slice (some (aD g 0)) l.length c) l)(j:Nat)(y:Int):w.grownBy (w.setCell (aD g j) (.int .u8 y)) (Value.slice (some (aD g 0)) l.length c).ownBlock:=(World.ownsRow.stored h.1 j (.int .u8 y)).2
section
variable {ops:Array Oper} {rest:List Oper} {o:Oper} {a:Act} {Q:Exit->Act->World->Prop}
theorem b79(H:o.guard=none)(s x:Operand)(p:o.op=Op.call { callee:=Callee.builtin Builtin.append,args:=#[s,x],argTypes:=#[24,24] })
 (P W:World) (v:Value) (l:LI) (y:Int) (O:T7 P W v l) (E:Ext P W) (N:l.length<17592186044416) (S:a.eval s=v) (K:a.eval x=.slice (some (aD W.heap.size 0)) 1 1)
 (U:∀R e,T7 P e R (l++[y])->Ext P e->wpList Tryz.prog ops Q rest (a.put o.dst R) e) :
 wpList Tryz.prog ops Q (o :: rest) a (W.alloc (.cells #[.int .u8 y] 5)):=by
 obtain⟨i,J,Z,n,b⟩:=info_parts lz4;refine wpList_append_own _ H s x 24 p P.heap.size 5 i (.int .u8 0) 1 1 m06 J Z n b rfl om v l.length _ S (O.alloc _).1 (aD W.heap.size 0) 1 1 [.int .u8 y] K rfl ?_ (by simp[Value.oneCell']) (by unfold maxLen;omega) om (by have:=E.size;simp;omega) ?_;exact cell_one_new _ _ _;intro R e h g _;have z:=E.alloc (.cells #[.int .u8 y] 5);refine U R e ⟨by simpa using h,by simp;omega⟩ (z.grown g fun k V=>(O.blk k V).1)
end
theorem elB:Tryz.prog.underlying 24=some (.slice (Tryz.prog.elem 24)):=by kernel_rfl
theorem lc9:∀w,(Go.sizeOf (Tryz.prog.elem 24)).run Tryz.prog w=.ok 1 w:=fun w=>by kernel_rfl
def rd(m:Nat):LI:=if m=0 then []else(48+(m%10:Nat)) :: rd (m/10)
theorem bs7:rd 0=[]:=by rw[rd,if_pos rfl]
theorem bn9{m:Nat}(h:¬m=0):rd m=(48+((m%10:Nat):Int)) :: rd (m/10):=by rw[rd,if_neg h]
theorem cm9:∀s,W8 m s=strOfNums (rd m).reverse++s:=by
 induction m using Nat.strongRecOn with
 |ind m ih =>
  intro s;by_cases h:m=0
  . subst h;rw[bx5,bs7];apply pH;simp[strOfNums]
  . rw[bu6 s h,ih (m/10) om,bn9 h];apply pH;simp[strOfNums]
theorem T7.cellAt{n c:Nat}{l:LI}(h:T7 P w (.slice (some (aD g 0)) n c) l)(N:l.length=n)(i:Nat)(J:i<n):w.cell? (aD g i)=some (.int .u8 (nth l i))/\w.frozen? (aD g i)=false:=by
 subst N;have H:=h.1;exact⟨by rw[World.ownsRow.cellAt H i om];simp[nth,List.getD,J],World.ownsRow.frozenAt H i⟩
theorem T7.stored_grown{n c:Nat}{l:LI}(h:T7 P w (.slice (some (aD g 0)) n c) l)(H:l.length=n)(j:Nat)(y:Int):T7 P (w.setCell (aD g j) (.int .u8 y)) (.slice (some (aD g 0)) n c) (l.set j y)/\w.grownBy (w.setCell (aD g j) (.int .u8 y)) (some g):=by
 subst H;exact⟨h.stored j y,h.grown j y⟩
theorem T7.str{n c:Nat}{l:LI}(h:T7 W w (.slice (some (aD g 0)) n c) l)(H:l.length=n):(convert 24 9 (.slice (some (aD g 0)) n c)).run Tryz.prog w=.ok (.string (strOfNums l)) w :=
 run_convert_bytes_arg (P:=Tryz.prog) _ 24 5 (by rfl) (by rfl) g 0 n c l H (fun i J=>by
  rw[oM];exact(h.cellAt H i J).1) _ (by rfl)
theorem zz112{P:Prop}(h:P:=by intro i W J;rw[run_indexAt_slice (h:=elB),if_pos om,lc9];simp[Result.andThen,pe]):P:=h
theorem dl3(n:Nat)(u:n<1000000000000)(hp:0<n)(w:World):
 Calls Tryz.prog 77 #[vi n] w (RE w (.string (j8 n))):=by
 have h0:¬(n:Int)=0:=om;have h1:¬(n:Int)<0:=om;have ha:=ci8 (er w);have F:=(er w).alloc (.cells #[] 5);go_in;go_wp2_with fail;go_loopw [3,4] (fun v d wr=>∃(m:Nat) (l:LI),m<1000000000000/\d=vi m/\Ext w wr/\T7 w wr v l/\l.length+m<=n/\l++rd m=rd n) (fun _ d _=>(intOf d).toNat);exact⟨n,[],u,rfl,F,ha,zm,zm⟩
 obtain⟨m,l,hm,rfl,E,O,S,p⟩:=hrel;by_cases Z:m=0
 . subst Z;rw[bs7,pV]at p;have b:0<l.length:=(by rw[p,bn9 om];simp);obtain⟨g,c,rfl,hj,P,hu,y⟩:=O.shape b;obtain⟨L,Y⟩:=nq (l.length);rw[<-Y]at S b hj;have hy:L<=n:=om;have C:=zh p;have H:=zh Y;have HO:=zh O;clear p Y O y S;rw[<-H.o];have hI:∀(i:Nat) W,i<L->(Instr.indexAt 24 (.slice (some (aD g 0)) L c) (vi (i:Int))).run Tryz.prog W=.ok (.pointer (some (aD g i))) W:=by
    exact zz112
   go_wp2_with fail;go_loopw [6,7] (fun i j wr=>∃(k jn:Nat),k<=jn+1/\jn+k+1=L/\i=vi k/\j=vi jn/\Ext w wr/\T7 w wr (.slice (some (aD g 0)) L c) (V1 l k)) (fun _ j _=>(intOf j).toNat);exact⟨0,L-1,om,om,rfl,zg,E,by rw[cj6,H.o];exact HO.o⟩;case round =>
    obtain⟨k,jn,V,K,rfl,rfl,I,X⟩:=hrel;have T:=zh K;by_cases U:k<jn
    . have ho:k<L:=om;have hh:jn<L:=om;clear K;have e:(V1 l k).length=L:=(by rw[V8,<-H.o]);obtain⟨hs,hJ⟩:=X.cellAt e k ho;obtain⟨hv,hK⟩:=X.cellAt e jn hh;have x:=zh e;have Ha:=zh X;clear e X;have ht:¬k=jn:=om;have hA:¬jn=k:=om;go_wp2_with fail;go_big_region;go_wp2_with fail;go_roundw;case rel =>
       have hH:=T.o;have hB:(V1 l k).length-1-k=jn:=(by rw[x.o];omega);obtain⟨hb,hc⟩:=Ha.o.stored_grown x.o k (nth (V1 l k) jn);obtain⟨f,he⟩:=hb.stored_grown (by rw[ql];exact x.o) jn (nth (V1 l k) k);have t:=cj5 l k (by rw[<-H.o];omega);rw[<-H.o,show L-1-k=jn by omega]at t;rw[t]at f;exact⟨k+1,jn-1,om,om,zg,zg,((I.grown hc (fun q s=>by cases s;exact P)).grown he (fun q s=>by cases s;exact P)).drew,f⟩
      case measure=>exact zm1
    . clear K;have hw:=X.str (by rw[V8,<-H.o]);have D:Hid (strOfNums (V1 l k)=j8 n):=zh (by
       have hx:=T.o;have hC:=H.o;rw[cz1 l k om,C.o,dv8 hp,cm9];apply pH;simp)
      go_wp2_with fail;go_ret;exact⟨j5 D.o,I⟩
 have r:¬(m:Int)=0:=om;obtain⟨R,hr⟩:∃R:Nat,(m:Int)%10=R:=⟨m%10,om⟩;have hG:R<10:=om;obtain⟨q,s⟩:∃q:Nat,(m:Int)/10=q:=⟨m/10,om⟩;have Hr:=zh (show R=m%10 by omega);have M:=zh (show q=m/10 by omega);have C:=zh p;have B:=zh S;have hg:l.length<17592186044416:=om;clear p S;go_wp2_with(at_builtin;refine b79 rfl _ _ rfl w _ _ _ _ O E hg rfl rfl ?_;intro v1 G A z);go_roundw;case rel =>
  have N:=M.o;have hf:=Hr.o;have hD:=B.o;exact⟨q,_,om,rfl,z,A,by(simp;omega),by rw[<-C.o,bn9 Z,<-N,<-hf];simp⟩
 have N:=M.o;(simp[intOf];omega)
theorem do4(w:World):
 Calls Tryz.prog 77 #[vi (-1)] w (RE w (.string (j8 (-1)))):=by
 have R:=ci8 (er w);have F:=(er w).alloc (.cells #[] 5);have u:=zh jf4;go_in;go_wp2_with fail;go_loopw [3,4] (fun v d wr=>Ext w wr/\((d=vi (-1)/\T7 w wr v [])\/(d=vi 0/\T7 w wr v [49]))) (fun _ d _=>(intOf d).natAbs);exact⟨F,Or.inl ⟨rfl,R⟩⟩
 obtain⟨E,⟨rfl,O⟩|⟨rfl,O⟩⟩:=hrel
 . go_wp2_with(at_builtin;refine b79 rfl _ _ rfl w _ _ _ _ O E zm rfl rfl ?_;intro n G H z);go_roundw;exact⟨z,Or.inr ⟨rfl,H⟩⟩;(simp[intOf])
 go_wp2_with(at_builtin;go_loud (refine b79 rfl _ _ rfl w _ _ _ _ O E zm rfl rfl ?_;intro n G H z;obtain⟨l,m⟩:∃l:LI,l=[49]++[45]:=⟨_,rfl⟩;rw[<-m]at H;have Z:0<l.length:=(by rw[m];simp);obtain⟨g,c,C,T,M,hc,-⟩:=H.shape Z;obtain⟨L,Y⟩:=nq (l.length);have hf:L<=2:=(by rw[Y,m];simp);rw[<-Y]at Z T C;subst C;have r:=zh Y;have D:=zh m;have y:=zh H;clear Y m H O));have hB:∀(i:Nat) W,i<L->(Instr.indexAt 24 (.slice (some (aD g 0)) L c) (vi (i:Int))).run Tryz.prog W=.ok (.pointer (some (aD g i))) W:=by
  exact zz112
 go_wp2_with fail;go_loopw [6,7] (fun i j wr=>∃(k jn:Nat),k<=jn+1/\jn+k+1=L/\i=vi k/\j=vi jn/\Ext w wr/\T7 w wr (.slice (some (aD g 0)) L c) (V1 l k)) (fun _ j _=>(intOf j).toNat);exact⟨0,L-1,om,om,rfl,zg,z,by rw[cj6];exact y.o⟩;case round =>
  obtain⟨k,jn,V,K,rfl,rfl,I,X⟩:=hrel;have N:=zh K;by_cases U:k<jn
  . have ha:k<L:=om;have B:jn<L:=om;clear K;have e:(V1 l k).length=L:=(by rw[V8,<-r.o]);obtain⟨hb,hr⟩:=X.cellAt e k ha;obtain⟨hj,hs⟩:=X.cellAt e jn B;have x:=zh e;have A:=zh X;clear e X;have he:¬k=jn:=om;have hm:¬jn=k:=om;go_wp2_with fail;go_big_region;go_wp2_with fail;go_roundw;case rel =>
     have hp:=N.o;have hn:(V1 l k).length-1-k=jn:=(by rw[x.o];omega);obtain⟨b,P⟩:=A.o.stored_grown x.o k (nth (V1 l k) jn);obtain⟨f,S⟩:=b.stored_grown (by rw[ql];exact x.o) jn (nth (V1 l k) k);have t:=cj5 l k (by rw[<-r.o];omega);rw[<-r.o,show L-1-k=jn by omega]at t;rw[t]at f;exact⟨k+1,jn-1,om,om,zg,zg,((I.grown P (fun q s=>by cases s;exact M)).grown S (fun q s=>by cases s;exact M)).drew,f⟩
    case measure=>exact zm1
  . clear K;have hg:=X.str (by rw[V8,<-r.o]);have p:Hid (strOfNums (V1 l k)=j8 (-1)):=zh (by
     have hh:=N.o;have ho:=r.o;rw[cz1 l k om,D.o,u.o];rfl)
    go_wp2_with fail;go_ret;exact⟨j5 p.o,I⟩
theorem d91(w:World):
 Calls Tryz.prog 77 #[vi 0] w (RE w (.string (j8 0))):=by
 have e:j8 0=⟨#[48]⟩:=by unfold j8;rw[if_pos rfl]
 have H:=zh e;clear e;exact zz60
theorem C0(H: -1<=n/\n<1000000000000)(w:World):Calls Tryz.prog 77 #[vi n] w (RE w (.string (j8 n))):=by
 rcases (by omega:n = -1\/n=0\/0<n)with rfl|rfl|h;exact do4 w;exact d91 w;obtain⟨m,rfl⟩:=pl (show 0<=n by omega);exact dl3 m om om w
theorem j24:∀m,m<10^k->(rd m).length<=k:=by
 induction k with
 | zero=>intro m h;have:m=0:=by omega
         subst this;rw[bs7];simp
 |succ k ih =>
  intro m h;by_cases H:m=0
  . subst H;rw[bs7];simp
  . rw[bn9 H];have:=ih (m/10) (by rw[pU]at h;omega);simp;omega
theorem bx4{m:Nat}(h:m<1000000000000):(W8 m ⟨#[]⟩).size<=12:=by
 rw[cm9,oe,strOfNums_size,qB];have:=j24 12 m om;have e:(⟨#[]⟩:Ba).size=0:=rfl;omega
theorem cf5{m:Nat}(h:0<m):1<=(W8 m ⟨#[]⟩).size:=by
 rw[cm9,oe,strOfNums_size,qB,bn9 om];simp;omega
theorem zz130{P:Prop}(h:P:=by rw[oe];have e:(⟨#[45]⟩:Ba).size=1:=rfl;omega):P:=h
theorem m9{n:Int}(h: -1<=n/\n<1000000000000):(j8 n).size<=13:=by
 unfold j8;split;decide;split;have:=bx4 (m:=n.natAbs) om;exact zz130;have:=bx4 (m:=n.natAbs) om;omega
theorem bf6{n:Int}(h: -1<=n/\n<1000000000000):1<=(j8 n).size:=by
 unfold j8;split;decide;split;exact zz130;exact cf5 om
def jn(s:Ba)(f:Nat->Ba):Nat->Ba
 |0=>⟨#[]⟩
 |k+1=>(if 0<k then jn s f k++s else jn s f k)++f k
theorem b29(f:Nat->Ba):jn s f 1=⟨#[]⟩++f 0:=rfl
theorem b42(f:Nat->Ba){k:Nat}(h:0<k):jn s f (k+1)=(jn s f k++s)++f k:=by
 show(if 0<k then _ else _)++_=_;rw[if_pos h]
theorem zz159{P:Prop}(h:P:=by have r:=h k om;unfold jn;split<;>simp only[oe]<;>omega):P:=h
theorem b43(f:Nat->Ba)(S:s.size<=1):∀k,(∀i,i<k->(f i).size<=13)->(jn s f k).size<=14*k:=by
 intro k;induction k with
 |zero=>intro _;exact oc _
 |succ k ih =>
  intro h;have H:=ih (fun i J=>h i om);exact zz159
theorem bg0(f:Nat->Ba)(k:Nat)(h:0<k)(H:∀i,i<k->1<=(f i).size):1<=(jn s f k).size:=by
 obtain⟨j,rfl⟩:∃j,k=j+1:=⟨k-1,om⟩;have:=H j om;unfold jn;rw[oe];omega
theorem b32{t:Ba}(h:1<=t.size):t.toList.isEmpty=false:=by
 rw[pi,List.isEmpty_eq_false_iff];intro r;have T:t.data.toList.length=0:=by rw[r];rfl
 rw[pS]at T;have H:t.size=t.data.size:=rfl;omega
def G9(x:Int):Int:=min (max x (-1)) 99
theorem b21: -1<=G9 x/\G9 x<1000000000000:=by unfold G9;omega
theorem zz146{P:Prop}(h:P:=by go_in;go_wp2_with fail;go_ret;exact⟨by rw[H.o];rfl,rfl⟩):P:=h
theorem bq8(w:World):
 Calls Tryz.prog 90 #[vi x] w fun e W=>e=.returned (vi (G9 x))/\w=W:=by
 rcases (by omega:x < -1\/(-1<=x/\x<=99)\/99<x)with h|⟨h,r⟩|h;have H:Hid (G9 x = -1):=zh (by unfold G9;omega);exact zz146;have H:Hid (G9 x=x):=zh (by unfold G9;omega);exact zz146;have H:Hid (G9 x=99):=zh (by unfold G9;omega);exact zz146
def b11:Ba:=⟨#[44]⟩
def clS(l:LI)(k:Nat):Ba:=j8 (G9 (nth l k))
theorem dr5:(clS l k).size<=13:=m9 (b21 _)
theorem l40:1<=(clS l k).size:=bf6 (b21 _)
def O6(l:LI):Ba:=if l.length=0\/40<l.length then⟨#[110,111,110,101]⟩else jn b11 (clS l) l.length
theorem zz14{P:Prop}(h:P:=by have K:k=0:=om;subst K;have I:∀W,(Instr.indexAt 40 (.slice O l.length c) (vi 0)).run Tryz.prog W=.ok (.pointer (some (d 0))) W:=fun W=>(by simpa using x 0 W U);go_wp2_with(with_reducible refine cm (F _) fun G z=>?_);go_roundw;exact⟨1,_,om,rfl,rfl,zh (by rw[b29,H.o,T.o];rfl),E.trans z⟩;exact zm1):P:=h
theorem zz51{P:Prop}(h:P:=by have K:(0:Int)<k:=om;go_wp2_with(with_reducible refine cm (F _) fun G z=>?_);go_roundw;exact⟨k+1,_,om,zg,rfl,zh (by rw[b42 _ _ X,<-T.o,H.o];rfl),E.trans z⟩;exact zm1):P:=h
theorem b50(w:World)(h:c8 w v l):Calls Tryz.prog 210 #[v] w (RE w (.string (O6 l))):=by
 obtain⟨O,c,d,rfl,n,D,e⟩:=h.op;have x:=j2 (c:=c) elI szI D;clear D h;by_cases C:40<l.length
 . have H:Hid (O6 l=⟨#[110,111,110,101]⟩):=zh (by unfold O6;rw[if_pos (Or.inr C)]);have b:¬l.length<=40:=om;go_in;go_wp2_with fail;go_loopw [3,4] (fun s i wr=>i=vi 0/\s=.string ⟨#[]⟩/\Ext w wr) (fun _ _ _=>0);exact⟨rfl,rfl,er _⟩;case round =>
    obtain⟨rfl,rfl,E⟩:=hrel;have p:0<l.length:=om;go_wp2_with fail;go_ret;exact⟨j5 H.o.symm,E⟩
 have b:l.length<=40:=om;clear C;go_in;go_wp2_with fail;go_loopw [3,4] (fun s i wr=>∃(k:Nat) (t:Ba),k<=l.length/\i=vi k/\s=.string t/\Hid (t=jn b11 (clS l) k)/\Ext w wr) (fun _ i _=>l.length-(intOf i).toNat);exact⟨0,_,om,rfl,rfl,zh rfl,er _⟩;case round =>
  obtain⟨k,t,V,rfl,rfl,T,E⟩:=hrel;have f:t.size<=14*k:=(by rw[T.o];exact b43 _ _ (by decide) k fun i _=>dr5 l i);by_cases U:k<l.length
  . have g:=e k _ U E;rcases (by omega:nth l k <= -1\/(-1<nth l k/\nth l k<99)\/99<=nth l k)with h|⟨h,r⟩|h
    . have B:nth l k<99:=om;have J:¬ -1<nth l k:=om;have H:Hid (clS l k=j8 (-1)):=zh (by unfold clS;congr 1;unfold G9;omega);have F:=o8 (-1) om;have S:(j8 (-1)).size<=13:=m9 om;obtain⟨u,A⟩:=nq (j8 (-1));rw[<-A]at S F H;clear A;by_cases X:0<k
      . exact zz51
      . exact zz14
    . skip;have H:Hid (clS l k=j8 (nth l k)):=zh (by unfold clS;congr 1;unfold G9;omega);have F:=o8 (nth l k) om;have S:(j8 (nth l k)).size<=13:=m9 om;obtain⟨u,A⟩:=nq (j8 (nth l k));rw[<-A]at S F H;clear A;by_cases X:0<k
      . exact zz51
      . exact zz14
    . have B:¬nth l k<99:=om;have H:Hid (clS l k=j8 (99)):=zh (by unfold clS;congr 1;unfold G9;omega);have F:=o8 (99) om;have S:(j8 (99)).size<=13:=m9 om;obtain⟨u,A⟩:=nq (j8 (99));rw[<-A]at S F H;clear A;by_cases X:0<k
      . exact zz51
      . exact zz14
  . have L:k=l.length:=om;subst L;by_cases Y:l.length=0
    . have H:Hid (O6 l=⟨#[110,111,110,101]⟩):=zh (by unfold O6;rw[if_pos (Or.inl Y)]);have m:t=⟨#[]⟩:=(by rw[T.o,Y];rfl);subst m;clear Y f;go_wp2_with fail;go_ret;exact⟨j5 H.o.symm,E⟩
    . have H:Hid (O6 l=t):=zh (by unfold O6;rw[if_neg om,T.o]);have Z:=bg0 b11 (clS l) l.length om fun i _=>l40 l i;rw[<-T.o]at Z;have q:=b32 Z;go_wp2_with fail;go_ret;exact⟨j5 H.o.symm,E⟩
def bt(s:Ba)(i:Nat):Nat:=(s.data.toList.getD i 0).toNat
theorem b19(h:i<s.size):(s[i]'h).toNat=bt s i:=by
 have r:i<s.data.toList.length:=by rw[pS];exact h
 unfold bt;rw[List.getD_eq_getElem?_getD,List.getElem?_eq_getElem r];rfl
theorem jd0(h:s.size<=i):bt s i=0:=by
 have r:s.data.toList.length<=i:=by rw[pS];exact h
 unfold bt;rw[List.getD_eq_getElem?_getD,List.getElem?_eq_none r];rfl
theorem lf3:bt s i<256:=UInt8.toNat_lt _
theorem jc8(x y:Ba)(i:Nat)(h:i<x.size):bt (x++y) i=bt x i:=by
 have r:i<x.data.toList.length:=by rw[pS];exact h
 unfold bt;rw[ByteArray.data_append,Array.toList_append,List.getD_eq_getElem?_getD,List.getElem?_append_left r,<-List.getD_eq_getElem?_getD]
theorem jc9(x y:Ba)(i:Nat)(h:x.size<=i):bt (x++y) i=bt y (i-x.size):=by
 have r:x.data.toList.length<=i:=by rw[pS];exact h
 have T:x.data.toList.length=x.size:=pS;unfold bt;rw[ByteArray.data_append,Array.toList_append,List.getD_eq_getElem?_getD,List.getElem?_append_right r,<-List.getD_eq_getElem?_getD,T]
theorem lr2(J:i<l.length)(h:0<=nth l i/\nth l i<256):(bt (strOfNums l) i:Int)=nth l i:=by
 unfold bt;rw[strOfNums_data,List.getD_eq_getElem?_getD,List.getElem?_map,List.getElem?_eq_getElem J];have e:nth l i=l[i]:=by simp[nth,List.getD,J]
 rw[e]at h|-;simp only[Option.map_some,Option.getD_some,UInt8.toNat_ofNat'];omega
def pv(s:Ba):Nat->Nat × Nat
 |0=>(0,0)
 |i+1=>if 48<=bt s i/\bt s i<=57 then(10*(pv s i).1+(bt s i-48),(pv s i).2+1)else pv s i
theorem j21(h:48<=bt s i/\bt s i<=57):pv s (i+1)=(10*(pv s i).1+(bt s i-48),(pv s i).2+1):=by
 show(if _ then _ else _)=_;rw[if_pos h]
theorem jn1(h:¬(48<=bt s i/\bt s i<=57)):pv s (i+1)=pv s i:=by
 show(if _ then _ else _)=_;rw[if_neg h]
theorem do1:(pv s i).1<10^(pv s i).2/\(pv s i).2<=i:=by
 induction i with
 |zero=>exact⟨by show 0<10^0;decide,oc _⟩
 |succ i ih =>
  by_cases h:48<=bt s i/\bt s i<=57
  . rw[j21 s i h];refine⟨?_,by simp;omega⟩;show 10*(pv s i).1+(bt s i-48)<10^((pv s i).2+1);rw[pU];omega
  . rw[jn1 s i h];exact⟨ih.1,om⟩
theorem jy2(h:k<=m):10^k<=10^m:=ot om h
theorem jn0(h:i<=11):(pv s i).1<100000000000:=by
 have H:=(do1 s i).1;have r:=(do1 s i).2;have:=jy2 (pv s i).2 11 om;omega
def sgI(s:Ba):Int:=if bt s 0=45 then -((pv s (min s.size 11)).1:Int)else(pv s (min s.size 11)).1
def pI(s:Ba):Int × Bool:=if (pv s (min s.size 11)).2<=9/\s.size<=10/\j8 (sgI s)=s then(sgI s,true)else(0,false)
theorem dn9{s:Ba}(h:¬((pv s (min s.size 11)).2<=9/\s.size<=10/\j8 (sgI s)=s)):pI s=(0,false):=if_neg h
theorem j05{s:Ba}(h:(pv s (min s.size 11)).2<=9/\s.size<=10/\j8 (sgI s)=s):pI s=(sgI s,true):=if_pos h
theorem lg7:∀x∈rd m,48<=x/\x<=57:=by
 induction m using Nat.strongRecOn with
 | ind m ih =>
  intro x K;by_cases h:m=0
  . subst h;rw[bs7]at K;simp at K
  . rw[bn9 h]at K;rcases pM.1 K with rfl|K
    . omega
    . exact ih (m/10) om x K
theorem bu5:W8 m ⟨#[]⟩=strOfNums (rd m).reverse:=by
 rw[cm9];apply pH;simp
theorem lw0(h:i<(rd m).reverse.length):48<=nth (rd m).reverse i/\nth (rd m).reverse i<=57:=by
 have e:nth (rd m).reverse i=(rd m).reverse[i]:=by unfold nth;rw[List.getD_eq_getElem?_getD,List.getElem?_eq_getElem h];rfl
 rw[e];exact lg7 m _ (List.mem_reverse.1 (qh _))
theorem dg3(h:0<m)(k:m<1000000000):1<=(W8 m ⟨#[]⟩).size/\(W8 m ⟨#[]⟩).size<=9/\∀i,i<(W8 m ⟨#[]⟩).size->48<=bt (W8 m ⟨#[]⟩) i/\bt (W8 m ⟨#[]⟩) i<=57:=by
 refine⟨cf5 h,?_,?_⟩;rw[bu5,strOfNums_size,qB];exact j24 9 m om;rw[bu5,strOfNums_size];intro i J;have H:=lw0 m i J;have r:=lr2 _ i J om;omega
def Z8(s:Ba):Nat:=if bt s 0=45 then 1 else 0
theorem l61(h: -1000000000<n/\n<1000000000):Z8 (j8 n)+1<=(j8 n).size/\(j8 n).size<=Z8 (j8 n)+9/\∀i,Z8 (j8 n)<=i->i<(j8 n).size->48<=bt (j8 n) i/\bt (j8 n) i<=57:=by
 by_cases H:n=0
 . subst H;have e:j8 0=⟨#[48]⟩:=rfl;rw[e];refine⟨by decide,by decide,fun i _ J=>?_⟩
   have:i=0:=by have T:(⟨#[48]⟩:Ba).size=1:=rfl
                omega
   subst this;decide
 by_cases U:n<0;obtain⟨d,hd⟩:=nq (W8 n.natAbs ⟨#[]⟩);have e:j8 n=⟨#[45]⟩++d:=(by unfold j8;rw[if_neg H,if_pos U,hd]);obtain⟨a,b,c⟩:=dg3 n.natAbs om om;rw[<-hd]at a b c;have E:(⟨#[45]⟩:Ba).size=1:=rfl;have T:(j8 n).size=1+d.size:=(by rw[e,oe,E]);have V:bt (j8 n) 0=45:=(by rw[e,jc8 _ _ _ (by decide)];rfl);have X:Z8 (j8 n)=1:=(by unfold Z8;rw[if_pos V]);rw[X,T];refine⟨om,om,fun i J I=>?_⟩;rw[e,jc9 _ _ _ (by rw[E];exact J),E];exact c _ om
 obtain⟨d,hd⟩:=nq (W8 n.natAbs ⟨#[]⟩);have e:j8 n=d:=(by unfold j8;rw[if_neg H,if_neg U,hd]);obtain⟨a,b,c⟩:=dg3 n.natAbs om om;rw[<-hd]at a b c;have V:¬bt d 0=45:=(by have:=c 0 om;omega);have X:Z8 d=0:=(by unfold Z8;rw[if_neg V]);rw[e,X];exact⟨om,om,fun i _ J=>c i J⟩
theorem lw4(h:(pv s (min s.size 11)).2<=9) : -1000000000<sgI s/\sgI s<1000000000:=by
 have H:=(do1 s (min s.size 11)).1;have r:=jy2 _ 9 h;unfold sgI;split<;>omega
theorem j41: -1000000000000<sgI s/\sgI s<1000000000000:=by
 have h:=jn0 s (min s.size 11) om;unfold sgI;split<;>omega
theorem dp9:Z8 s<=1:=by unfold Z8;split<;>omega
theorem jh5{s:Ba}(h:(pI s).2=true):Z8 s+1<=s.size/\s.size<=Z8 s+9/\∀i,Z8 s<=i->i<s.size->48<=bt s i/\bt s i<=57:=by
 by_cases c:(pv s (min s.size 11)).2<=9/\s.size<=10/\j8 (sgI s)=s;have:=l61 (sgI s) (lw4 s c.1);rw[c.2.2]at this;exact this;rw[dn9 c]at h;cases h
theorem jx5{s:Ba}(h:¬(Z8 s+1<=s.size/\s.size<=Z8 s+9)):pI s=(0,false):=by
 refine dn9 fun c=>h ?_;have:=jh5 (s:=s) (by rw[j05 c]);exact⟨this.1,this.2.1⟩
theorem lv5{s:Ba}{i:Nat}(H:Z8 s<=i)(J:i<s.size)(h:¬(48<=bt s i/\bt s i<=57)):pI s=(0,false):=by
 refine dn9 fun c=>h ?_;have:=jh5 (s:=s) (by rw[j05 c]);exact this.2.2 i H J
theorem lz9:pv s (Z8 s)=(0,0):=by
 unfold Z8;split;rename_i h;rw[jn1 s 0 om];rfl;rfl
theorem lv8{s:Ba}(h:Z8 s+1<=s.size/\s.size<=Z8 s+9)(V:(pv s s.size).2=s.size-Z8 s):pI s=if j8 (sgI s)=s then(sgI s,true)else(0,false):=by
 have H:=dp9 s;have e:min s.size 11=s.size:=om;unfold pI;rw[e];by_cases f:j8 (sgI s)=s;rw[if_pos ⟨om,om,f⟩,if_pos f];rw[if_neg (fun q=>f q.2.2),if_neg f]
theorem ln8{s:Ba}(h:s.size<=Z8 s+9):sgI s=if bt s 0=45 then -((pv s s.size).1:Int)else(pv s s.size).1:=by
 have H:=dp9 s;unfold sgI;rw[show min s.size 11=s.size by omega]
def cv8(c:Int)(s:Ba):Nat->Ba->List Ba
 |0,p=>[p]
 |k+1,p=>if (bt s (s.size-(k+1)):Int)=c then p :: cv8 c s k ⟨#[]⟩else cv8 c s k (p++s.extract (s.size-(k+1)) (s.size-k))
def Z3(c:Int)(s:Ba)(i:Nat)(p:Ba):List Ba:=cv8 c s (s.size-i) p
def p7(c:Int)(s:Ba):List Ba:=Z3 c s 0 ⟨#[]⟩
theorem bu2(h:s.size<=i):Z3 c s i p=[p]:=by
 unfold Z3;rw[show s.size-i=0 by omega];rfl
theorem bu3(h:i<s.size)(H:(bt s i:Int)=c):Z3 c s i p=p :: Z3 c s (i+1) ⟨#[]⟩:=by
 unfold Z3;obtain⟨k,V⟩:∃k,s.size-i=k+1:=⟨s.size-i-1,om⟩;rw[V,show s.size-(i+1)=k by omega];show(if _ then _ else _)=_;rw[show s.size-(k+1)=i by omega,if_pos H]
theorem bn2(h:i<s.size)(H:¬(bt s i:Int)=c):Z3 c s i p=Z3 c s (i+1) (p++s.extract i (i+1)):=by
 unfold Z3;obtain⟨k,V⟩:∃k,s.size-i=k+1:=⟨s.size-i-1,om⟩;rw[V,show s.size-(i+1)=k by omega];show(if _ then _ else _)=_;rw[show s.size-(k+1)=i by omega,if_neg H,show s.size-k=i+1 by omega]
theorem jr6:∀k p,k<=s.size->(∀t∈cv8 c s k p,t.size<=p.size+k)/\(cv8 c s k p).length<=k+1/\1<=(cv8 c s k p).length:=by
 intro k;induction k with
 |zero=>intro p _;exact⟨fun t h=>by rw[oE.1 h];omega,oc _,oc _⟩
 | succ k ih =>
  intro p V;rw[cv8];split
  . obtain⟨a,b,d⟩:=ih ⟨#[]⟩ om;refine⟨fun t h=>?_,by simp;omega,zm⟩;rcases pM.1 h with rfl|h
    . omega
    . have:=a t h;have e:(⟨#[]⟩:Ba).size=0:=rfl;omega
  . obtain⟨a,b,d⟩:=ih (p++s.extract (s.size-(k+1)) (s.size-k)) om;refine⟨fun t h=>?_,om,d⟩;have:=a t h;rw[oe,pP]at this;omega
theorem K6:(∀t∈p7 c s,t.size<=s.size)/\(p7 c s).length<=s.size+1/\1<=(p7 c s).length:=by
 have:=jr6 c s s.size ⟨#[]⟩ (oc _);have e:(⟨#[]⟩:Ba).size=0:=rfl;unfold p7 Z3;rw[Nat.sub_zero];refine⟨fun t h=>?_,this.2⟩;have:=this.1 t h;omega
theorem l55(h:f<=i):s.extract f i++s.extract i (i+1)=s.extract f (i+1):=by
 rw[ByteArray.extract_append_extract];congr 1<;>omega
theorem du7:s.extract f f=⟨#[]⟩:=by
 apply pH;simp
theorem b05{x y:Ba}:(x.toList == y.toList)=decide (x=y):=by
 rw[pi,pi];by_cases h:x=y;subst h;simp;rw[decide_eq_false h,beq_eq_false_iff_ne];intro e;exact h (pH (Array.ext' e))
theorem lg1:(Tryz.prog.info? 9).map (fun i=>(i.zero,i.size,i.bytes))=some (some (.string ⟨#[]⟩),1,16):=by kernel_rfl
theorem ly8:Tryz.prog.underlying 29=some (.slice 9):=by kernel_rfl
theorem elS:Tryz.prog.underlying 29=some (.slice (Tryz.prog.elem 29)):=by kernel_rfl
theorem szS:∀w,(Go.sizeOf (Tryz.prog.elem 29)).run Tryz.prog w=.ok 1 w:=fun w=>by kernel_rfl
def m8(l:List Ba)(i:Nat):Ba:=l.getD i ⟨#[]⟩
def N2(P w:World)(v:Value)(l:List Ba):Prop :=
 w.ownsRow P.heap.size 9 1 v l.length (l.map Value.string)/\l.length<=1000000
theorem N2.blk{v:Value}{l:List Ba}(h:N2 P w v l):∀k,v.ownBlock=some k->P.heap.size<=k/\k<w.heap.size:=h.1.lt
theorem N2.alloc{v:Value}{l:List Ba}(h:N2 P w v l)(o:Obj):N2 P (w.alloc o) v l:=⟨h.1.alloc o,h.2⟩
theorem N2.ext{e:World}{v:Value}{l:List Ba}(h:N2 P w v l)(E:Ext w e):N2 P e v l:=by
 exact zz134
theorem bg3(E:Ext P w):N2 P (w.alloc (.cells #[] 9)) (.slice (some (aD w.heap.size 0)) 0 0) []:=by
 have:=qk (base:=P.heap.size) (e:=9) (size:=1) w #[] 0 E.size (by unfold maxLen;omega) zm;exact⟨by simpa using this,zm⟩
def b04(w:World)(v:Value)(l:List Ba):Prop :=
 ∃(A:Option Addr) (c:Nat),v=.slice A l.length c/\l.length<=1000000/\∀i,i<l.length->∃g,A=some (aD g 0)/\w.cell? (aD g i)=some (.string (m8 l i))
theorem N2.strs{v:Value}{l:List Ba}(h:N2 P w v l):b04 w v l:=by
 obtain⟨U,r⟩:=h;rcases U.2 with⟨rfl,L⟩|⟨g,cap,u,rfl,H,b,c,R⟩;exact⟨none,0,by rw[L],r,om⟩;refine⟨some (aD g 0),cap,rfl,r,fun i J=>⟨g,rfl,?_⟩⟩;rw[World.ownsRow.cellAt U i om];simp[m8,List.getD,J]
section
variable {ops:Array Oper} {rest:List Oper} {o:Oper} {a:Act} {Q:Exit->Act->World->Prop}
theorem S4(H:o.guard=none)(s x:Operand)(p:o.op=Op.call { callee:=Callee.builtin Builtin.append,args:=#[s,x],argTypes:=#[29,29] })
 (P W:World) (v:Value) (l:List Ba) (y:Ba) (O:N2 P W v l) (E:Ext P W) (N:l.length<1000000) (S:a.eval s=v) (K:a.eval x=.slice (some (aD W.heap.size 0)) 1 1)
 (U:∀R e,N2 P e R (l++[y])->Ext P e->wpList Tryz.prog ops Q rest (a.put o.dst R) e) :
 wpList Tryz.prog ops Q (o :: rest) a (W.alloc (.cells #[.string y] 9)):=by
 obtain⟨i,J,Z,n,b⟩:=info_parts lg1;refine wpList_append_own _ H s x 29 p P.heap.size 9 i (.string ⟨#[]⟩) 1 16 ly8 J Z n b rfl om v l.length _ S (O.alloc _).1 (aD W.heap.size 0) 1 1 [.string y] K rfl ?_ (by simp[Value.oneCell']) (by unfold maxLen;omega) om (by have:=E.size;simp;omega) ?_;exact cell_one_new _ _ _;intro R e h g _;have z:=E.alloc (.cells #[.string y] 9);refine U R e ⟨by simpa using h,by simp;omega⟩ (z.grown g fun k V=>(O.blk k V).1)
end
theorem zz32{P:Prop}(h:P:=by rw[run_indexAt_slice (h:=elS),if_pos om,szS];simp[Result.andThen,pe]):P:=h
theorem zz143{P:Prop}(h:P:=by have K:k=0:=om;subst K;go_wp2_with fail;go_round;exact⟨1,_,om,rfl,rfl,zh (by rw[b29,X.o,d.o];rfl)⟩;exact zm1):P:=h
theorem cg8(l:List Ba)(s:Ba)(w:World)(h:b04 w v l)(S:s.size<=1)(L:∀i,i<l.length->(m8 l i).size<=13):Calls Tryz.prog 194 #[v,.string s] w fun e P=>e=.returned (.string (jn s (m8 l) l.length))/\w=P:=by
 obtain⟨A,c,rfl,n,C⟩:=h;have x:∀(i:Nat) W,i<l.length->∃g,A=some (aD g 0)/\(Instr.indexAt 29 (.slice A l.length c) (vi (i:Int))).run Tryz.prog W=.ok (.pointer (some (aD g i))) W:=by
  intro i W J;obtain⟨g,rfl,-⟩:=C i J;refine⟨g,rfl,?_⟩;exact zz32
 have D:=zh L;clear L;go_in;go_wp2_with fail;go_loop [5,10] (fun t i=>∃(k:Nat) (u:Ba),k<=l.length/\i=vi k/\t=.string u/\Hid (u=jn s (m8 l) k)) (fun _ i=>l.length-(intOf i).toNat);exact⟨0,_,om,rfl,rfl,zh rfl⟩
 obtain⟨k,u,V,rfl,rfl,X⟩:=hrel;have j:u.size<=14*k:=by rw[X.o];exact b43 _ _ S k fun i J=>D.o i om
 by_cases U:k<l.length
 . obtain⟨g,H,I⟩:=x k w U;obtain⟨B,G,Z⟩:=C k U;have f:B=g:=(by rw[H]at G;simp only[Option.some.injEq,Addr.mk.injEq,and_true]at G;exact G.symm);subst f;clear x C;subst H;have p:=D.o k U;obtain⟨y,Y⟩:=nq (m8 l k);rw[<-Y]at Z p;have d:=zh Y;clear Y;by_cases b:0<k
   . have K:(0:Int)<k:=om;go_wp2_with fail;go_round;exact⟨k+1,_,om,zg,rfl,zh (by rw[b42 _ _ b,<-X.o,d.o])⟩;exact zm1
   exact zz143
 have z:k=l.length:=om;subst z;clear x C;go_wp2_with fail;go_ret;exact⟨j5 X.o,rfl⟩
theorem bv0(f g:Nat->Ba):∀k,(∀i,i<k->f i=g i)->jn s f k=jn s g k:=by
 intro k;induction k with
 |zero=>intro _;rfl
 |succ k ih=>intro h;unfold jn;rw[ih fun i J=>h i om,h k om]
theorem bk8(h:i<l.length):m8 (l.map j8) i=j8 (nth l i):=by
 simp[m8,nth,List.getD,h]
def H6(l:LI):Ba:=if l.length=0 then⟨#[110,111,110,101]⟩else jn b11 (fun i=>j8 (nth l i)) l.length
theorem d08(h:k<l.length):(l.take (k+1)).map j8=(l.take k).map j8++[j8 (nth l k)]:=by
 rw[qP,pF];simp[nth,List.getD,h]
theorem zz57{P:Prop}(h:P:=by have t:((l.take k).map j8).length<1000000:=(by rw[oG,ol];omega);go_wp2_with(first|(go_at_call 77;with_reducible refine cm (I _) fun wc C=>?_)|(at_builtin;refine S4 rfl _ _ rfl w _ _ _ _ (O.ext C) (E.trans C) t rfl rfl ?_;intro m G W z));go_roundw;exact⟨k+1,om,zg,by rw[d08 _ _ U];exact W,z⟩;exact zm1):P:=h
theorem zz168{P:Prop}(h:P:=by go_wp2_with(refine T.mono ?_;rintro e G⟨rfl,rfl⟩);go_ret;exact⟨j5 (by rw[H.o,oG]),E⟩):P:=h
theorem cs9(w:World)(h:c8 w v l)(r:∀i,i<l.length -> -1<=nth l i/\nth l i<1000000000000)(j:l.length<=1000):Calls Tryz.prog 165 #[v] w (RE w (.string (H6 l))):=by
 obtain⟨A,c,p,rfl,n,d,L⟩:=h.op;have x:=j2 (c:=c) elI szI d;clear d h;have R:=zh r;clear r;have X:=bg3 (er w);have F:=(er w).alloc (.cells #[] 9);by_cases S:l.length=0;have H:Hid (H6 l=⟨#[110,111,110,101]⟩):=zh (by unfold H6;rw[if_pos S]);exact zz60;have M:((l.length:Int) == 0)=false:=(by rw[beq_eq_false_iff_ne];omega);have H:Hid (H6 l=jn b11 (m8 (l.map j8)) (l.map j8).length):=zh (by
  unfold H6;rw[if_neg S,oG];exact bv0 _ _ _ _ fun i J=>(bk8 l i J).symm)
 go_in;go_wp2_with fail;go_loopw [3,12] (fun v i wr=>∃k:Nat,k<=l.length/\i=vi k/\N2 w wr v ((l.take k).map j8)/\Ext w wr) (fun _ i _=>l.length-(intOf i).toNat);exact⟨0,om,rfl,X,F⟩;case round =>
  obtain⟨k,V,rfl,O,E⟩:=hrel;by_cases U:k<l.length
  . have Z:=L k _ U E;have D:=R.o k U;have I:=C0 (nth l k) D;exact zz57
  . have K:k=l.length:=om;subst K;rw[oz]at O;have s:=O.strs;have T:=cg8 _ (l.map j8) b11 _ s (by decide) (fun i J=>by
     rw[oG]at J
     rw[bk8 l i J];exact m9 (R.o i J))
    exact zz168
theorem l02(h:l.length<=40):O6 l=H6 (l.map G9):=by
 unfold O6 H6;rw[oG];by_cases H:l.length=0;rw[if_pos (Or.inl H),if_pos H];rw[if_neg om,if_neg H];exact bv0 _ _ _ _ fun i J=>by simp[clS,nth,List.getD,J]
theorem jo2(h:k<l.length):(l.take (k+1)).map G9=(l.take k).map G9++[G9 (nth l k)]:=by
 rw[qP,pF];simp[nth,List.getD,h]
theorem dm9(h:i<(l.map G9).length) : -1<=nth (l.map G9) i/\nth (l.map G9) i<1000000000000:=by
 rw[oG]at h;have e:nth (l.map G9) i=G9 (nth l i):=by simp[nth,List.getD,h]
 rw[e];exact b21 _
theorem bg7(w:World)(h:c8 w v l):Calls Tryz.prog 91 #[v] w (RE w (.string (O6 l))):=by
 obtain⟨A,c,D,rfl,N,d,e⟩:=h.op;have x:=j2 (c:=c) elI szI d;clear d h;have R:=l9 (TI:=3) (n:=0) om (er w) [] rfl;have F:=(er w).alloc (.cells #[] 3);by_cases S:40<l.length;have H:Hid (O6 l=⟨#[110,111,110,101]⟩):=zh (by unfold O6;rw[if_pos (Or.inr S)]);have W:(40:Int)<(l.length:Int):=om;exact zz60;have W:¬(40:Int)<(l.length:Int):=om;have r:decide ((40:Int)<(l.length:Int))=false:=zso;have H:=zh (l02 l om);go_in;go_wp2_with fail;go_loopw [3,12] (fun v i wr=>∃k:Nat,k<=l.length/\i=vi k/\Own 3 w wr v ((l.take k).map G9)/\Ext w wr) (fun _ i _=>l.length-(intOf i).toNat);exact⟨0,om,rfl,R,F⟩;case round =>
  obtain⟨k,V,rfl,O,E⟩:=hrel;by_cases U:k<l.length
  . have Z:=e k _ U E;have b:=bq8 (nth l k);have L:((l.take k).map G9).length<17592186044416:=(by rw[oG,ol];omega);go_wp2_with(first|(go_at_call 90;with_reducible refine cm (b _) fun wc t=>?_;subst t)|(at_builtin;refine p6 slI rfl _ _ rfl w _ _ _ _ O E L rfl rfl ?_;intro j G T z));go_roundw;exact⟨k+1,om,zg,by rw[jo2 _ _ U];exact T,z⟩;exact zm1
  . have K:k=l.length:=om;subst K;rw[oz]at O;have I:=O.ints;have C:=cs9 _ (l.map G9) _ I (fun i J=>dm9 l i J) (by rw[oG];omega);go_wp2_with(refine cm C fun G z=>?_);go_ret;exact⟨j5 H.o.symm,E.trans z⟩
theorem W2(w:World)(h:c8 w v l):Calls Tryz.prog 153 #[.agg #[v]] w (RE w (vi (bp0 l))):=by
 have S:=h;obtain⟨A,c,r,rfl,N,d,L⟩:=h.op;have x:=j2 (c:=c) elI szI d;clear d;have F:=(er w).alloc (.cells #[(.slice A l.length c)] 42);have E:=er (w.alloc (.cells #[(.slice A l.length c)] 42));have C:=d8 w (.slice A l.length c) 42;have H:∀W,Ext (w.alloc (.cells #[(.slice A l.length c)] 42)) W->c8 W (.slice A l.length c) l:=fun W D=>h.ext (F.trans D);clear h;cases Y:d7 l
 . have R:=zh Y;go_in;go_wp2_with(first|(go_at_call 92;refine cx (o9 _ _ _ (H _ E)) E fun e E=>?_));go_ret;exact⟨o3 (d52 R.o).symm,F.trans E⟩
 have R:=zh Y;go_in;go_wp2_with(first|(go_at_call 92;refine cx (o9 _ _ _ (H _ E)) E fun e E=>?_));clear Y;have T:=E5 R.o;have Z:∀i,i<l.length->World.cell? _ (r i)=_:=fun i J=>L i _ J (F.trans E);go_loop [3,12] (fun n i=>∃k:Nat,k<=l.length/\n=vi (C5 (l.take k))/\i=vi k) (fun _ i=>l.length-(intOf i).toNat);exact⟨0,om,rfl,rfl⟩;case round =>
  obtain⟨k,V,rfl,rfl⟩:=hrel;obtain⟨B,b⟩:=b54 k l V om (fun j f=>G4 R.o om)
  by_cases U:k<l.length
  . have I:=G4 R.o U;obtain⟨m,M⟩:=c95 B b I.1 I.2;go_wp2_with fail;go_round;exact⟨k+1,om,by rw[Z9 l k U],zg⟩;exact zm1
  . have K:k=l.length:=om;subst K;rw[oz]at *;go_wp2_with fail;go_ret;exact⟨o3 (by unfold bp0;rw[if_pos R.o]),F.trans E⟩
theorem o4(w:World)(h:c8 w v l)(R:Hid (d7 l=true)):Calls Tryz.prog 103 #[.agg #[v]] w (RE w (vi (ord l:Int))):=by
 obtain⟨A,c,r,rfl,L,d,e⟩:=h.op;have x:=j2 (c:=c) elI szI d;clear d h;have F:=(er w).alloc (.cells #[.slice A l.length c] 42);have T:=E5 R.o;go_in;go_wp2_with fail;go_loop [3,4] (fun n i=>∃k:Nat,k<=l.length/\n=vi (C5 (l.take k))/\i=vi k) (fun _ i=>l.length-(intOf i).toNat);exact⟨0,om,rfl,rfl⟩
 obtain⟨k,V,rfl,rfl⟩:=hrel;obtain⟨B,b⟩:=b54 k l V om (fun j J=>G4 R.o om)
 by_cases U:k<l.length
 . have C:=e k _ U F;have H:=G4 R.o U;obtain⟨m,M⟩:=c95 B b H.1 H.2;go_wp2_with fail;go_round;exact⟨k+1,om,by rw[Z9 l k U],zg⟩;exact zm1
 have K:k=l.length:=om;subst K;rw[oz]at *;go_wp2_with fail;go_ret;exact⟨o3 (bl0 R.o).symm,F⟩
theorem F9(a:Int)(w:World)(h:c8 w v l):Calls Tryz.prog 180 #[.agg #[v],vi a] w (RE w (.bool (j0 l a))):=by
 have F:=(er w).alloc (.cells #[v] 42);have E:=er (w.alloc (.cells #[v] 42));have C:=d8 w v 42;have H:∀W,Ext (w.alloc (.cells #[v] 42)) W->c8 W v l:=fun W D=>h.ext (F.trans D);clear h;cases Y:d7 l
 . have R:=zh Y;go_in;go_wp2_with(first|(go_at_call 92;refine cx (o9 _ _ _ (H _ E)) E fun e E=>?_));go_ret;exact⟨j1 (by unfold j0;rw[R.o];rfl),F.trans E⟩
 have R:=zh Y;have r:=bi6 Y;have s:=o6 (n:=ord l) (by have:=l8 Y;omega);by_cases S:0<=a
 . go_in;go_wp2_with(first|(go_at_call 92;refine cx (o9 _ _ _ (H _ E)) E fun e E=>?_)|(go_at_call 153;refine cx (W2 _ _ _ (H _ E)) E fun e E=>?_));go_ret;exact⟨j1 (by have:=jy4 (ord l);unfold j0;rw[R.o,oA];simp;omega),F.trans E⟩
 go_in;go_wp2_with(first|(go_at_call 92;refine cx (o9 _ _ _ (H _ E)) E fun e E=>?_)|(go_at_call 153;refine cx (W2 _ _ _ (H _ E)) E fun e E=>?_));go_ret;exact⟨j1 (by unfold j0;rw[R.o];simp;omega),F.trans E⟩
theorem L1(a:Int)(w:World)(h:c8 w v l):Calls Tryz.prog 124 #[.agg #[v],vi a] w (RE w (.bool (j0 l a))):=by
 have F:=(er w).alloc (.cells #[v] 42);have E:=er (w.alloc (.cells #[v] 42));have C:=d8 w v 42;have H:∀W,Ext (w.alloc (.cells #[v] 42)) W->c8 W v l:=fun W D=>h.ext (F.trans D);clear h;cases Y:d7 l
 . have R:=zh Y;go_in;go_wp2_with(first|(go_at_call 52;refine cx (C4 _ _ _ (H _ E)) E fun P E=>?_));go_ret;exact⟨j1 (by unfold j0;rw[R.o];rfl),F.trans E⟩
 have R:=zh Y;have s:=o6 (n:=ord l) (by have:=l8 Y;omega);have i:=X9 (ord l);have p:=bc9 (l8 Y).2;go_in;go_wp2_with(first|(go_at_call 52;refine cx (C4 _ _ _ (H _ E)) E fun P E=>?_)|(go_at_call 103;refine cx (o4 _ _ _ (H _ E) (R)) E fun P E=>?_)|(go_at_call 141;refine(P6 _ _ _ _).mono ?_;rintro e P⟨rfl,rfl⟩));go_ret;exact⟨j1 (by have:=jy4 (ord l);unfold j0 inB;rw[R.o,oA];simp;omega),F.trans E⟩
theorem C6(a:Nat)(A:a<2^24)(w:World):Calls Tryz.prog 78 #[vi a] w fun e W=>e=.returned (vi (cnt a:Int))/\w=W:=by
 have c:=p8 a;go_in;go_wp2_with fail;go_loop [0,3] (fun x n=>∃b m:Nat,b<2^24/\m+cnt b=cnt a/\x=vi b/\n=vi m) (fun x _=>(intOf x).toNat);exact⟨a,0,A,om,rfl,rfl⟩
 obtain⟨b,m,C,h,rfl,rfl⟩:=hrel;have H:=zh h;have M:m<=24:=om;clear h;by_cases S:b=0
 . subst S;go_wp2_with fail;go_ret;exact⟨o3 (by have:=H.o;rw[Z1]at this;omega),rfl⟩
 have N:((b:Int) != 0)=true:=zso;have B:b<16777216:=C;have E:(b:Int)-1=((b-1:Nat):Int):=om;have d:b13 (b:Int) ((b:Int)-1)=((b &&& (b-1):Nat):Int):=(by rw[E];exact b95 om om);clear E;go_wp2_with fail;go_round;exact⟨b &&& (b-1),m+1,Nat.and_lt_two_pow _ om,by have:=ds1 (by omega:0<b) C;have:=H.o;omega,rfl,zg⟩;(simp[intOf];have:=Nat.and_le_right (n:=b) (m:=b-1);omega)
theorem o7(a:Nat)(A:a<2^24)(w:World):Calls Tryz.prog 125 #[vi a] w fun e W=>e=.returned (vi (cnt a:Int))/\w=W:=by
 have c:=p8 a;go_in;go_wp2_with fail;go_loop [3,4] (fun n x=>∃b m:Nat,b<2^24/\m+cnt b=cnt a/\x=vi b/\n=vi m) (fun _ x=>(intOf x).toNat);exact⟨a,0,A,om,rfl,rfl⟩
 obtain⟨b,m,C,h,rfl,rfl⟩:=hrel;have H:=zh h;have y:m<=24:=om;clear h;by_cases S:b=0
 . subst S;go_wp2_with fail;go_ret;exact⟨o3 (by have:=H.o;rw[Z1]at this;omega),rfl⟩
 have p:0<(b:Int):=om;have B:b<16777216:=C;have d:b13 (b:Int) 1=((b%2:Nat):Int):=Z5 om;have s:c12 (b:Int) 1=((shr b 1:Nat):Int):=R0 (a:=b) (n:=1) om;have M:b%2<=1:=om;go_wp2_with fail;go_round;exact⟨b/2,m+b%2,om,by have:=ds2 b C;have:=H.o;omega,by rw[ji0],zg⟩;(simp[intOf,ji0];omega)
theorem zz117{P:Prop}(h:P:=by have X:=zh (T5 V (ca8.1 h));have f:((shr a k:Nat):Int)=0:=(by rw[h];rfl);clear h;go_wp2_with fail;go_ret;exact⟨_,rfl,by rw[<-X.o];exact O,E⟩):P:=h
theorem J1(a:Nat)(A:a<2^24)(w:World):Calls Tryz.prog 195 #[vi a] w fun e W=>∃v,e=.returned v/\Own 3 w W v (b9 (j3 a))/\Ext w W:=by
 have R:=l9 (TI:=3) (n:=0) om (er w) [] rfl;have F:=(er w).alloc (.cells #[] 3);go_in;go_wp2_with fail;go_loopw [3,4] (fun v x wr=>∃k:Nat,k<=24/\x=vi k/\Own 3 w wr v (b9 (E2 a k))/\Ext w wr) (fun _ x _=>24-(intOf x).toNat);exact⟨0,om,rfl,R,F⟩
 obtain⟨k,V,rfl,O,E⟩:=hrel;have s:=R0 (a:=a) (n:=k) om;by_cases h:shr a k=0;exact zz117;have U:=dd8 h A;have N:=dj2 h;have b:=b16 (a:=a) (n:=k) om om;have S:=zh (H5 a k);have l:(b9 (E2 a k)).length<=24:=(by rw[d9];have:=bm3 a k;omega);clear h;cases C:a.testBit k
 . rw[C]at b;have H:=zh C;clear C;go_wp2_with fail;go_roundw;exact⟨k+1,om,zg,by rw[S.o,H.o];simpa using O,E⟩;exact zm1
 rw[C]at b;have H:=zh C;clear C;go_wp2_with(at_builtin;refine p6 slI rfl _ _ rfl w _ _ _ _ O E om rfl rfl ?_;intro i G T z);go_roundw;exact⟨k+1,om,zg,by rw[S.o,H.o];simpa[G6]using T,z⟩;exact zm1
theorem L0(a:Nat)(A:a<2^24)(w:World):Calls Tryz.prog 151 #[vi a] w fun e W=>∃v,e=.returned v/\Own 3 w W v (b9 (j3 a))/\Ext w W:=by
 have R:=l9 (TI:=3) (n:=0) om (er w) [] rfl;have F:=(er w).alloc (.cells #[] 3);go_in;go_wp2_with fail;go_loopw [3,4,5] (fun v i x wr=>∃k:Nat,k<=24/\i=vi k/\x=vi ((shr a k:Nat):Int)/\Own 3 w wr v (b9 (E2 a k))/\Ext w wr) (fun _ i _ _=>24-(intOf i).toNat);exact⟨0,om,rfl,rfl,R,F⟩
 obtain⟨k,V,rfl,rfl,O,E⟩:=hrel;by_cases h:shr a k=0;exact zz117;have U:=dd8 h A;have p:0<((shr a k:Nat):Int):=om;have b:=b16 (a:=a) (n:=k) om om;have s:c12 ((shr a k:Nat):Int) 1=((shr a (k+1):Nat):Int):=(by rw[<-ln9];exact R0 (n:=1) om);have S:=zh (H5 a k);have l:(b9 (E2 a k)).length<=24:=(by rw[d9];have:=bm3 a k;omega);clear h;cases C:a.testBit k
 . rw[C]at b;have H:=zh C;clear C;go_wp2_with fail;go_roundw;exact⟨k+1,om,zg,rfl,by rw[S.o,H.o];simpa using O,E⟩;exact zm1
 rw[C]at b;have H:=zh C;clear C;go_wp2_with(at_builtin;refine p6 slI rfl _ _ rfl w _ _ _ _ O E om rfl rfl ?_;intro j G T z);go_roundw;exact⟨k+1,om,zg,rfl,by rw[S.o,H.o];simpa[G6]using T,z⟩;exact zm1
end Go.Zz
