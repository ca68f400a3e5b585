/- Colorings without a solution and Rado numbers: the reference. -/
import Derived.Test.YtjhoafjeopcheaaGreatGr24
set_option linter.all false
set_option maxHeartbeats 2000000
set_option maxRecDepth 8000
namespace Go.Zz
open Go.RowKit Go.Proofs
variable(v:Value)(l:LI)(a b:Int)(u:Value)(c:LI)(n:Int)(w:World){f:Nat->Bool}
theorem jc0(h:∀j,j<2->f j=false):(List.range 2).any f=false:=by
 rw[List.any_eq_false];intro j H;rw[h j (ou.1 H)];simp
theorem dp5{j:Nat}(H:j<2)(h:f j=true):(List.range 2).any f=true:=by
 rw[pt];exact⟨j,ou.2 H,h⟩
theorem zz109{P:Prop}(h:P:=by have T:¬(x:Int)<2:=om;have H:Hid (avF c 2 n (f+1) s=false):=zh (by rw[t.o];exact jc0 fun j g=>N.o j om);go_wp2_with fail;go_ret;exact⟨j1 H.o.symm,E⟩):P:=h
theorem zz141{P:Prop}(h:P:=by go_in;go_wp2_with(go_at_call 278;refine(M _ F).mono ?_;rintro e G⟨V,rfl,z⟩);go_ret;exact⟨j1 H.o.symm,z⟩):P:=h
theorem zz162{P:Prop}(h:P:=by exact⟨x+1,om,zg,I.trans J,zh fun j g=>by by_cases q:j=x;(rw[q];exact d.o.symm);exact N.o j om⟩):P:=h
theorem dm6(n:Nat)(He:Hid (eqB c=true))(hb:1<=n)(hn:n<=9):∀f (s:LI),s.length<=n->n<s.length+f->∀(w:World) (u a:Value),c8 w u c->c8 w a s ->
 Calls Tryz.prog 207 #[u,vi 2,vi n,a] w (RE w (.bool (avF c 2 n f s))):=by
 intro f;induction f with
 |zero=>intro s h1 r;omega
 | succ f ih =>
  intro s hc ha w u a b hv;have P:=zh b;have X:=zh hv;have Hh:=zh ih;obtain⟨aa,ca,rfl,-⟩:=hv;have F:=er w;clear ih b;by_cases hc0:0<s.length;rotate_left
  . have hs:s=[]:=oF om;have hI:¬(0:Int)<(s.length:Int):=om;have y:¬s.length=n:=om;have hq:((s.length:Int) == (n:Int))=false:=(by rw[beq_eq_false_iff_ne];omega);have Z:Hid ((decide (s≠[])&&O9 c s)=false):=zh (by rw[hs];simp);clear hs;go_in;go_wp2_with fail;have t:Hid (avF c 2 n (f+1) s=(List.range 2).any (fun x=>avF c 2 n f (s++[(x:Int)]))):=zh (cv4 Z.o y);go_loopw [11] (fun S wr=>∃x:Nat,x<=2/\S=vi x/\Ext w wr/\Hid (∀j,j<x->avF c 2 n f (s++[(j:Int)])=false)) (fun S _=>2-(intOf S).toNat);exact⟨0,om,rfl,F,zh fun j g=>absurd g om⟩;case round =>
     rename World=>wr;obtain⟨x,K,rfl,E,N⟩:=hrel;by_cases U:x<2
     . have T:(x:Int)<2:=om;have Q:Own 3 w (wr.alloc (.cells #[] 3)) (.slice (some (aD wr.heap.size 0)) 0 0) []:=l9 (TI:=3) (n:=0) om E [] rfl;have k:=E.alloc (.cells #[] 3);have L:=X.o.ext k;have l:([]:LI).length+s.length<=17592186044416:=zso;have p:s.length<17592186044416:=om;have Y:Hid (∀R,R=avF c 2 n f (s++[(x:Int)])->True):=zh fun _ _=>trivial;obtain⟨R,i⟩:∃R,R=avF c 2 n f (s++[(x:Int)]):=⟨_,rfl⟩;have d:=zh i;have A:=fun (W:World) (D:Ext w W) (v:Value) (r:c8 W v (s++[(x:Int)]))=>Hh.o (s++[(x:Int)]) (by rw[oh,oo];omega) (by rw[oh,oo];omega) W u v (P.o.ext D) r;rw[<-i]at A;clear i Y E;cases R
       . go_wp2_with(first
          |(at_builtin;refine p6 slI rfl _ _ rfl w _ _ _ _ h z p rfl rfl ?_;intro v B O I)
          |(at_builtin;refine F7 slI rfl _ _ rfl w _ _ _ _ _ Q L k l rfl rfl ?_;intro V G h z;simp only[pq]at h)
          |(go_at_call 207;refine cm (A _ I _ O.ints) fun w3 J=>?_))
         go_roundw
         case rel=>exact zz162
         case measure=>exact zm1
       . have H:Hid (avF c 2 n (f+1) s=true):=zh (by rw[t.o];exact dp5 U d.o.symm)
         go_wp2_with(first
          |(at_builtin;refine p6 slI rfl _ _ rfl w _ _ _ _ h z p rfl rfl ?_;intro v B O I)
          |(at_builtin;refine F7 slI rfl _ _ rfl w _ _ _ _ _ Q L k l rfl rfl ?_;intro V G h z;simp only[pq]at h)
          |(go_at_call 207;refine cm (A _ I _ O.ints) fun w3 J=>?_))
         go_ret;exact⟨j1 H.o.symm,I.trans J⟩
     . exact zz109
  have hI:(0:Int)<(s.length:Int):=om;have C:s≠[]:=qN.1 hc0;have M:=fun W (D:Ext w W)=>bw6 u (.slice aa s.length ca) c s W (P.o.ext D) (X.o.ext D) He.o om om;cases m:O9 c s
  . rw[m] at M;have Z:Hid ((decide (s≠[])&&O9 c s)=false):=zh (by rw[m];simp);clear m C;by_cases y:s.length=n
    . have hq:((s.length:Int) == (n:Int))=true:=(by rw[beq_iff_eq];omega);have H:Hid (avF c 2 n (f+1) s=true):=zh (dq3 Z.o y);clear y;exact zz141
    . have hq:((s.length:Int) == (n:Int))=false:=(by rw[beq_eq_false_iff_ne];omega);go_in;go_wp2_with(go_at_call 278;refine(M _ F).mono ?_;rintro e G⟨V,rfl,z⟩);clear M;have t:Hid (avF c 2 n (f+1) s=(List.range 2).any (fun x=>avF c 2 n f (s++[(x:Int)]))):=zh (cv4 Z.o y);go_loopw [11] (fun S wr=>∃x:Nat,x<=2/\S=vi x/\Ext w wr/\Hid (∀j,j<x->avF c 2 n f (s++[(j:Int)])=false)) (fun S _=>2-(intOf S).toNat);exact⟨0,om,rfl,z,zh fun j g=>absurd g om⟩;case round =>
       rename World=>wr;obtain⟨x,K,rfl,E,N⟩:=hrel;by_cases U:x<2
       . have T:(x:Int)<2:=om;have Q:Own 3 w (wr.alloc (.cells #[] 3)) (.slice (some (aD wr.heap.size 0)) 0 0) []:=l9 (TI:=3) (n:=0) om E [] rfl;have k:=E.alloc (.cells #[] 3);have L:=X.o.ext k;have l:([]:LI).length+s.length<=17592186044416:=zso;have p:s.length<17592186044416:=om;have Y:Hid (∀R,R=avF c 2 n f (s++[(x:Int)])->True):=zh fun _ _=>trivial;obtain⟨R,i⟩:∃R,R=avF c 2 n f (s++[(x:Int)]):=⟨_,rfl⟩;have d:=zh i;have A:=fun (W:World) (D:Ext w W) (v:Value) (r:c8 W v (s++[(x:Int)]))=>Hh.o (s++[(x:Int)]) (by rw[oh,oo];omega) (by rw[oh,oo];omega) W u v (P.o.ext D) r;rw[<-i]at A;clear i Y E;cases R
         . go_wp2_with(first
            |(at_builtin;refine p6 slI rfl _ _ rfl w _ _ _ _ h z p rfl rfl ?_;intro v B O I)
            |(at_builtin;refine F7 slI rfl _ _ rfl w _ _ _ _ _ Q L k l rfl rfl ?_;intro V G h z;simp only[pq]at h)
            |(go_at_call 207;refine cm (A _ I _ O.ints) fun w3 J=>?_))
           go_roundw
           case rel=>exact zz162
           case measure=>exact zm1
         . have H:Hid (avF c 2 n (f+1) s=true):=zh (by rw[t.o];exact dp5 U d.o.symm)
           go_wp2_with(first
            |(at_builtin;refine p6 slI rfl _ _ rfl w _ _ _ _ h z p rfl rfl ?_;intro v B O I)
            |(at_builtin;refine F7 slI rfl _ _ rfl w _ _ _ _ _ Q L k l rfl rfl ?_;intro V G h z;simp only[pq]at h)
            |(go_at_call 207;refine cm (A _ I _ O.ints) fun w3 J=>?_))
           go_ret;exact⟨j1 H.o.symm,I.trans J⟩
       . exact zz109
  . rw[m]at M;have H:Hid (avF c 2 n (f+1) s=false):=zh (dq4 C m);clear m C;exact zz141
theorem zz150{P:Prop}(h:P:=by go_in;go_wp2_with fail;refine cm (C _ (er _)) fun G z=>?_;go_wp2_with fail;go_ret;exact⟨o3 H.o.symm,z⟩):P:=h
theorem d72(A:c8 w u c):Calls Tryz.prog 99 #[u,vi 2] w (RE w (vi (b00 c))):=by
 have C:=fun W (D:Ext w W)=>bc4 u c W (A.ext D);have L:=zh A;obtain⟨Q,x,rfl,-⟩:=A;cases U:eqB c;have H:=zh (d63 (c:=c) (Or.inl U));rw[U]at C;exact zz150;rw[U]at C;have X:=U4 U;by_cases T:c.length<=3;rotate_left;have H:=zh (d63 (c:=c) (Or.inr T));have M:(3:Int)<(c.length:Int):=om;exact zz150;have M:¬(3:Int)<(c.length:Int):=om;have v:inB (2:Int) 1 2=true:=(by decide);have r:=fun W=>P6 (2:Int) 1 2 W;rw[v]at r;have p:=zh U;have t:=zh T;have a:=fun (n:Nat) (V:1<=n) (k:n<=9) (l:Value) (W:World) (D:Ext w W) (K:c8 W l [])=>dm6 c n p V k (n+1) [] zm zm W (.slice Q c.length x) l (L.o.ext D) K;have Y:=zh (fun n (m:1<=n)=>lh6 (c:=c) om m);clear U X T;go_in;go_wp2_with fail;refine cm (C _ (er _)) fun G z=>?_;go_wp2_with(refine(r _).mono ?_;rintro e P⟨rfl,rfl⟩);clear C r v;go_loopw [5] (fun s wr=>∃n:Nat,1<=n/\n<=10/\s=vi n/\Ext w wr/\Hid (∀j,j+1<n->bh2 c (j+1)=false)) (fun s _=>10-(intOf s).toNat);exact⟨1,om,om,rfl,z,zh fun j f=>absurd f om⟩;case round =>
  clear z;rename World=>wr;obtain⟨n,d,R,rfl,E,N⟩:=hrel;by_cases k:n<=9
  . have y:(n:Int)<=9:=om;have O:Own 3 w (wr.alloc (.cells #[] 3)) (.slice (some (aD wr.heap.size 0)) 0 0) []:=l9 (TI:=3) (n:=0) om E [] rfl;have I:=E.alloc (.cells #[] 3);have B:=a n d k _ _ I O.ints;rw[Y.o n d]at B;cases h:bh2 c n
    . rw[h]at B;have g:=zh h;clear h a E;go_wp2_with(go_at_call 207;refine cm B fun w3 F=>?_);go_roundw;exact⟨n+1,om,om,zg,I.trans F,zh fun i J=>by by_cases q:i+1=n;(rw[q];exact g.o);exact N.o i om⟩;exact zm1
    . rw[h]at B;have H:Hid (b00 c=(n:Int)):=zh (by
       have:=jy5 p.o t.o (n:=n-1) om (fun j f=>N.o j om) (by rw[show n-1+1=n by omega];exact h);rw[this];omega)
      clear h a E;go_wp2_with(go_at_call 207;refine cm B fun w3 F=>?_);go_ret;exact⟨o3 H.o.symm,I.trans F⟩
  . have y:¬(n:Int)<=9:=om;have H:=zh (j23 p.o t.o fun j f=>N.o j om);go_wp2_with fail;go_ret;exact⟨o3 H.o.symm,E⟩
theorem d67(h: -9<=n/\n<1000000000000)(w:World):Calls Tryz.prog 97 #[vi n] w (RE w (.string (j8 n))):=c54 n ⟨om,h.2⟩ w
theorem d90(h: -9<=n/\n<1000000000000)(w:World):Calls Tryz.prog 77 #[vi n] w (RE w (.string (j8 n))):=cb4 n ⟨om,h.2⟩ w
theorem bq2{n:Int}(h: -9<=n/\n<1000000000000):(j8 n).size<=13:=by
 unfold j8;split;decide;split;have:=bx4 (m:=n.natAbs) om;exact zz130;have:=bx4 (m:=n.natAbs) om;omega
theorem jl3{n:Int}(h: -9<=n/\n<1000000000000):1<=(j8 n).size:=by
 unfold j8;split;decide;split;exact zz130;exact cf5 om
theorem J3{l:LI}(h:∀i,i<l.length -> -9<=nth l i/\nth l i<1000000000000)(H:l.length<=40):(H6 l).size<=560:=by
 unfold H6;split;decide;have:=b43 b11 (fun i=>j8 (nth l i)) (by decide) l.length fun i J=>bq2 (h i J);omega
theorem b97(h:c8 w v l)(r:∀i,i<l.length -> -9<=nth l i/\nth l i<1000000000000)(j:l.length<=1000):Calls Tryz.prog 165 #[v] w (RE w (.string (H6 l))):=by
 obtain⟨Q,c,d,rfl,n,a,L⟩:=h.op;have x:=j2 (c:=c) elI szI a;clear a h;have R:=zh r;clear r;have X:=bg3 (er w);have F:=(er w).alloc (.cells #[] 9);by_cases S:l.length=0;have H:Hid (H6 l=⟨#[110,111,110,101]⟩):=zh (by unfold H6;rw[if_pos S]);exact zz60;have M:((l.length:Int) == 0)=false:=(by rw[beq_eq_false_iff_ne];omega);have H:Hid (H6 l=jn b11 (m8 (l.map j8)) (l.map j8).length):=zh (by
  unfold H6;rw[if_neg S,oG];exact bv0 _ _ _ _ fun i J=>(bk8 l i J).symm)
 go_in;go_wp2_with fail;go_loopw [3,12] (fun v i wr=>∃k:Nat,k<=l.length/\i=vi k/\N2 w wr v ((l.take k).map j8)/\Ext w wr) (fun _ i _=>l.length-(intOf i).toNat);exact⟨0,om,rfl,X,F⟩;case round =>
  obtain⟨k,V,rfl,O,E⟩:=hrel;by_cases U:k<l.length
  . have Z:=L k _ U E;have D:=R.o k U;have I:=d90 (nth l k) D;exact zz57
  . have K:k=l.length:=om;subst K;rw[oz]at O;have s:=O.strs;have T:=cg8 _ (l.map j8) b11 _ s (by decide) (fun i J=>by
     rw[oG]at J
     rw[bk8 l i J];exact bq2 (R.o i J))
    exact zz168
theorem b72(m:LI)(w:World)(h:c8 w v m)(r:∀i,i<m.length -> -9<=nth m i/\nth m i<1000000000000)(j:m.length<=1000):Calls Tryz.prog 96 #[v] w (RE w (.string (H6 m))):=by
 obtain⟨O,L,d,rfl,N,a,C⟩:=h.op;have Q:=j2 (c:=L) elI szI a;have n:=zh r;clear a h r;go_in;go_wp2_with fail;go_loopw [3,4] (fun s i wr=>∃(k:Nat) (t:Ba),k<=m.length/\i=vi k/\s=.string t/\Hid (t=jn b11 (fun i=>j8 (nth m i)) k)/\Ext w wr) (fun _ i _=>m.length-(intOf i).toNat);exact⟨0,_,om,rfl,rfl,zh rfl,er _⟩
 obtain⟨k,t,V,rfl,rfl,H,E⟩:=hrel;have T:t.size<=14*k:=by rw[H.o];exact b43 _ _ (by decide) k fun i J=>bq2 (n.o i om)
 by_cases U:k<m.length
 . have Z:=C k _ U E;have F:=d67 (nth m k) (n.o k U);have z:(j8 (nth m k)).size<=13:=bq2 (n.o k U);obtain⟨u,A⟩:=nq (j8 (nth m k));rw[<-A]at z F;have e:=zh A;clear A;by_cases Y:0<k
   . have K:(0:Int)<k:=om;go_wp2_with(refine cm (F _) fun l I=>?_);go_roundw;exact⟨k+1,_,om,zg,rfl,zh (by rw[b42 _ _ Y,<-H.o,e.o];rfl),E.trans I⟩;exact zm1
   have K:k=0:=om;subst K;have M:∀W,(Instr.indexAt 40 (.slice O m.length L) (vi 0)).run Tryz.prog W=.ok (.pointer (some (d 0))) W:=fun W=>(by simpa using Q 0 W U);go_wp2_with(refine cm (F _) fun l I=>?_);go_roundw;exact⟨1,_,om,rfl,rfl,zh (by rw[b29,e.o,H.o];rfl),E.trans I⟩;exact zm1
 have x:k=m.length:=om;subst x;by_cases S:m.length=0
 . have p:t=⟨#[]⟩:=(by rw[H.o,S];rfl);subst p;have f:Hid (H6 m=⟨#[110,111,110,101]⟩):=zh (by unfold H6;rw[if_pos S]);clear S T;go_wp2_with fail;go_ret;exact⟨j5 f.o.symm,E⟩
 have e:Hid (H6 m=t):=zh (by unfold H6;rw[if_neg S,H.o]);have X:=bg0 b11 (fun i=>j8 (nth m i)) m.length om fun i J=>jl3 (n.o i J);rw[<-H.o]at X;have q:=b32 X;go_wp2_with fail;go_ret;exact⟨j5 e.o.symm,E⟩
theorem dc8: -1<=b00 c/\b00 c<=9:=by
 unfold b00;split;split;rename_i n h;have:=List.mem_of_find?_eq_some h;rw[ou]at this;omega;omega;omega
theorem j72:(∀i,i<(b9 (zcL c)).length -> -9<=nth (b9 (zcL c)) i/\nth (b9 (zcL c)) i<1000000000000)/\(b9 (zcL c)).length<=40:=by
 unfold zcL;split;rename_i m h;refine⟨fun i J=>?_,by rw[d9];have:=D0 m;omega⟩;have:=b91 m i J;omega;exact⟨fun i J=>by simp[b9]at J,by simp[b9]⟩
def c10(A B C D:Ba)(z n:Bool):Ba:=(if n then(((if z then((((((⟨#[101,113,117,97,116,105,111,110,32]⟩:Ba)++A)++(⟨#[32,115,111,108,117,116,105,111,110,115,32]⟩:Ba))++B)++(⟨#[32,114,101,103,117,108,97,114,32]⟩:Ba))++C)else((((⟨#[101,113,117,97,116,105,111,110,32]⟩:Ba)++A)++(⟨#[32,115,111,108,117,116,105,111,110,115,32]⟩:Ba))++B))++(⟨#[32,110,117,109,98,101,114,32]⟩:Ba))++D)else(if z then((((((⟨#[101,113,117,97,116,105,111,110,32]⟩:Ba)++A)++(⟨#[32,115,111,108,117,116,105,111,110,115,32]⟩:Ba))++B)++(⟨#[32,114,101,103,117,108,97,114,32]⟩:Ba))++C)else((((⟨#[101,113,117,97,116,105,111,110,32]⟩:Ba)++A)++(⟨#[32,115,111,108,117,116,105,111,110,115,32]⟩:Ba))++B)))
def bh9(c:LI):Ba :=
 if eqB c then
  c10 (H6 c) (j8 (E9 c 4 [] c.length []:Nat)) (H6 (b9 (zcL c))) (j8 (b00 c)) (zcB c) (decide (c.length<=3))
 else⟨#[]⟩
theorem du5{c:LI}(h:eqB c=false):bh9 c=⟨#[]⟩:=by unfold bh9;rw[h];rfl
theorem da9{c:LI}(h:eqB c=true):bh9 c=c10 (H6 c) (j8 (E9 c 4 [] c.length []:Nat)) (H6 (b9 (zcL c))) (j8 (b00 c)) (zcB c) (decide (c.length<=3)):=by
 unfold bh9;rw[if_pos h]
theorem l52(A B C D:Ba)(z n:Bool):(if n then F4 [(if z then F4 [F4 [(⟨#[101,113,117,97,116,105,111,110]⟩:Ba),A,(⟨#[115,111,108,117,116,105,111,110,115]⟩:Ba),B],(⟨#[114,101,103,117,108,97,114]⟩:Ba),C]else F4 [(⟨#[101,113,117,97,116,105,111,110]⟩:Ba),A,(⟨#[115,111,108,117,116,105,111,110,115]⟩:Ba),B]),(⟨#[110,117,109,98,101,114]⟩:Ba),D]else(if z then F4 [F4 [(⟨#[101,113,117,97,116,105,111,110]⟩:Ba),A,(⟨#[115,111,108,117,116,105,111,110,115]⟩:Ba),B],(⟨#[114,101,103,117,108,97,114]⟩:Ba),C]else F4 [(⟨#[101,113,117,97,116,105,111,110]⟩:Ba),A,(⟨#[115,111,108,117,116,105,111,110,115]⟩:Ba),B]))=c10 A B C D z n:=by
 unfold c10;apply b20;cases z<;>cases n<;>simp[F4,jn,m8,spB,List.getD]
theorem zz151{P:Prop}(h:P:=by go_in;go_wp2_with fail;refine cm (C _ (er _)) fun G z=>?_;go_wp2_with fail;go_ret;exact⟨j5 N.o.symm,z⟩):P:=h
theorem cu4(M:c8 w u c):Calls Tryz.prog 61 #[u] w (RE w (.string (bh9 c))):=by
 have C:=fun W (D:Ext w W)=>b41 u c W (M.ext D);have K:=zh M;cases h:eqB c;have N:=zh (du5 h);rw[h]at C;exact zz151;rw[h]at C;have hs:=U4 h;obtain⟨hy,hw,hp⟩:=hs;have hg:∀i,i<c.length -> -9<=nth c i/\nth c i<1000000000000:=fun i J=>by have:=hp i J;omega
 have hN:E9 c 4 [] c.length []<=256:=by
  have h1:=c30 c 4 [] c.length [];have T:4^c.length<=4^4:=ot om hw;omega
 have hx:=dc8 c;have l:=j72 c;have N:=zh (da9 h);obtain⟨Q,L,rfl,-⟩:=M;have sA:=J3 hg om;have sB:=m9 (n:=((E9 c 4 [] c.length []:Nat):Int)) om;have sC:=J3 l.1 l.2;have sD:=m9 (n:=b00 c) om;have S:=fun W (D:Ext w W)=>d18 (.slice Q c.length L) c 4 W (K.o.ext D) h om;have a:=fun W (D:Ext w W)=>b97 (.slice Q c.length L) c W (K.o.ext D) hg om;have B:=fun W=>C0 ((E9 c 4 [] c.length []:Nat):Int) om W;have P:=fun v W (hv:c8 W v (b9 (zcL c)))=>b97 v (b9 (zcL c)) W hv l.1 om;have d:=fun W=>C0 (b00 c) om W;have t:=fun W (D:Ext w W)=>d20 (.slice Q c.length L) c W (K.o.ext D);have R:=fun W (D:Ext w W)=>d95 (.slice Q c.length L) c W (K.o.ext D);obtain⟨f,H⟩:=nq (decide (c.length<=3));have ht:f=true->(c.length:Int)<=3:=fun e=>by rw[e]at H;have:=of_decide_eq_true H.symm;omega
 have hf:f=false->¬(c.length:Int)<=3:=fun e=>by rw[e]at H;have:=of_decide_eq_false H.symm;omega
 rw[<-H]at N;obtain⟨A,hA⟩:=nq (H6 c);obtain⟨BB,hB⟩:∃x,x=j8 ((E9 c 4 [] c.length []:Nat):Int):=⟨_,rfl⟩;obtain⟨CC,hC⟩:=nq (H6 (b9 (zcL c)));obtain⟨DD,hD⟩:=nq (j8 (b00 c));obtain⟨zb,hq⟩:=nq (zcB c);rw[<-hA]at a sA N;rw[<-hB]at B sB N;simp only[<-hC]at P sC N;rw[<-hD]at d sD N;simp only[<-hq]at t N;obtain⟨NN,ho⟩:=nq (E9 c 4 [] c.length []);obtain⟨rv,hr⟩:=nq (b00 c);simp only[<-ho,show((4:Nat):Int)=4 from rfl]at S B hN;simp only[<-hr]at R d hx;clear hA hB hC hD hq ho hr h hp hg l H;obtain⟨X0,X,m⟩:=be1 [(⟨#[101,113,117,97,116,105,111,110]⟩:Ba),A,(⟨#[115,111,108,117,116,105,111,110,115]⟩:Ba),BB] (by simp[o5];omega);have z0:X0.size<=700:=X ▸ nle (b64 _) (by simp[K3,o5];omega);simp only[ph,pj,oy,oI,Nat.reduceAdd,oM]at m;obtain⟨X1,hl,Z,g⟩:=N8 X0 zb [(⟨#[114,101,103,117,108,97,114]⟩:Ba),CC] _ z0 (by simp[o5];omega) (by simp[K3,o5];omega);replace Z:X1.size<=1400:=nle Z (by simp[K3,o5];omega);simp only[ph,pj,oy,oI,Nat.reduceAdd,oM]at g;obtain⟨X2,hm,-,k⟩:=N8 X1 f [(⟨#[110,117,109,98,101,114]⟩:Ba),DD] _ Z (by simp[o5];omega) (by simp[K3,o5];omega);simp only[ph,pj,oy,oI,Nat.reduceAdd,oM]at k;have Hn:Hid (bh9 c=X2):=zh (by rw[hm,hl,X,N.o];exact(l52 A BB CC DD zb f).symm);clear X hl hm z0 Z sA sB sC sD N;cases f
 . have hI:=hf rfl;have Hd:Hid (decide ((c.length:Int)<=3)=false):=zh (by simpa using hI);clear ht hf;go_in;go_wp2_with fail;refine cm (C _ (er _)) fun G z=>?_
   go_wp2_with(first
    |(go_at_call 164;refine(S _ z).mono ?_;rintro e w2⟨vS,rfl,hS,hc⟩;have I:=z.trans hc;obtain⟨aS,kS,rfl,-⟩:=hS.shape)
    |(go_at_call 165;with_reducible refine cm (a _ I) fun w3 ha=>?_;have F:=I.trans ha)
    |(go_at_call 77;with_reducible refine cm (B _) fun w4 hb=>?_;have O:=F.trans hb)
    |(go_at_call 76;refine cm (m _) fun w5 hk=>?_;have E:=O.trans (og ((er _).alloc _) hk))
    |(go_at_call 166;refine(t _ E).mono ?_;rintro e w6⟨vZ,rfl,hZ,p⟩;have V:=E.trans p)
    |(go_at_call 165;with_reducible refine cm (P _ _ hZ.ints) fun w7 q=>?_;have b:=V.trans q)
    |(go_at_call 82;with_reducible refine cm (g _) fun w8 hj=>?_;have U:=b.trans (og ((er _).alloc _) hj))
    |(go_at_call 167;refine cm (R _ U) fun w9 r=>?_;have Y:=U.trans r)
    |(go_at_call 77;with_reducible refine cm (d _) fun wa y=>?_;have j:=Y.trans y)
    |(go_at_call 82;rw[Hd.o];with_reducible refine cm (k _) fun wb hh=>?_;have s:=j.trans (og ((er _).alloc _) hh)))
   go_ret;exact⟨j5 Hn.o.symm,s⟩
 have hI:=ht rfl;clear ht hf;go_in;go_wp2_with fail;refine cm (C _ (er _)) fun G z=>?_
 go_wp2_with(first
  |(go_at_call 164;refine(S _ z).mono ?_;rintro e w2⟨vS,rfl,hS,hc⟩;have I:=z.trans hc;obtain⟨aS,kS,rfl,-⟩:=hS.shape)
  |(go_at_call 165;with_reducible refine cm (a _ I) fun w3 ha=>?_;have F:=I.trans ha)
  |(go_at_call 77;with_reducible refine cm (B _) fun w4 hb=>?_;have O:=F.trans hb)
  |(go_at_call 76;refine cm (m _) fun w5 hk=>?_;have E:=O.trans (og ((er _).alloc _) hk))
  |(go_at_call 166;refine(t _ E).mono ?_;rintro e w6⟨vZ,rfl,hZ,p⟩;have V:=E.trans p)
  |(go_at_call 165;with_reducible refine cm (P _ _ hZ.ints) fun w7 q=>?_;have b:=V.trans q)
  |(go_at_call 82;with_reducible refine cm (g _) fun w8 hj=>?_;have U:=b.trans (og ((er _).alloc _) hj))
  |(go_at_call 167;refine cm (R _ U) fun w9 r=>?_;have Y:=U.trans r)
  |(go_at_call 77;with_reducible refine cm (d _) fun wa y=>?_;have j:=Y.trans y)
  |(go_at_call 82;with_reducible refine cm (k _) fun wb hh=>?_;have s:=j.trans (og ((er _).alloc _) hh)))
 go_ret;exact⟨j5 Hn.o.symm,s⟩
theorem cq3(g:c8 w u c):Calls Tryz.prog 38 #[u] w (RE w (.string (bh9 c))):=by
 have C:=fun W (D:Ext w W)=>bc4 u c W (g.ext D);have V:=zh g;cases U:eqB c;have N:=zh (du5 U);rw[U]at C;exact zz151;rw[U]at C;have hh:=U4 U;obtain⟨hk,hl,hc⟩:=hh;have ha:∀i,i<c.length -> -9<=nth c i/\nth c i<1000000000000:=fun i J=>by have:=hc i J;omega
 have hN:E9 c 4 [] c.length []<=256:=by
  have h1:=c30 c 4 [] c.length [];have T:4^c.length<=4^4:=ot om hl;omega
 have hj:=dc8 c;have l:=j72 c;have N:=zh (da9 U);obtain⟨Q,b,rfl,-⟩:=g;have sA:=J3 ha om;have sB:=m9 (n:=((E9 c 4 [] c.length []:Nat):Int)) om;have sC:=J3 l.1 l.2;have sD:=m9 (n:=b00 c) om;have s:=fun W (D:Ext w W)=>cz5 (.slice Q c.length b) c 4 W (V.o.ext D) U om;have a:=fun W (D:Ext w W)=>b72 (.slice Q c.length b) c W (V.o.ext D) ha om;have B:=fun W=>o8 ((E9 c 4 [] c.length []:Nat):Int) om W;have P:=fun v W (hv:c8 W v (b9 (zcL c)))=>b72 v (b9 (zcL c)) W hv l.1 om;have d:=fun W=>o8 (b00 c) om W;have y:=fun W (D:Ext w W)=>cz8 (.slice Q c.length b) c W (V.o.ext D);have r:=fun W (D:Ext w W)=>d72 (.slice Q c.length b) c W (V.o.ext D);obtain⟨n3,j⟩:=nq (decide (c.length<=3));have t:n3=true->(c.length:Int)<=3:=fun e=>by rw[e]at j;have:=of_decide_eq_true j.symm;omega
 have f:n3=false->¬(c.length:Int)<=3:=fun e=>by rw[e]at j;have:=of_decide_eq_false j.symm;omega
 rw[<-j]at N;obtain⟨A,hA⟩:=nq (H6 c);obtain⟨BB,hB⟩:∃x,x=j8 ((E9 c 4 [] c.length []:Nat):Int):=⟨_,rfl⟩;obtain⟨CC,hC⟩:=nq (H6 (b9 (zcL c)));obtain⟨DD,hD⟩:=nq (j8 (b00 c));obtain⟨zb,hf⟩:=nq (zcB c);rw[<-hA]at a sA N;rw[<-hB]at B sB N;simp only[<-hC]at P sC N;rw[<-hD]at d sD N;simp only[<-hf]at y N;obtain⟨NN,hb⟩:=nq (E9 c 4 [] c.length []);obtain⟨rv,hg⟩:=nq (b00 c);simp only[<-hb,show((4:Nat):Int)=4 from rfl]at s B hN;simp only[<-hg]at r d hj;clear hA hB hC hD hf hb hg U hc ha l j;cases zb;all_goals cases n3
 . have hI:=f rfl;clear t f;go_in;go_wp2_with fail;refine cm (C _ (er _)) fun G z=>?_
   go_wp2_with(first
    |(go_at_call 95;refine(s _ z).mono ?_;rintro e p⟨vS,rfl,S,M⟩;have I:=z.trans M;obtain⟨aS,kS,rfl,-⟩:=S.shape)
    |(go_at_call 96;with_reducible refine cm (a _ I) fun w3 K=>?_;have F:=I.trans K)
    |(go_at_call 97;with_reducible refine cm (B _) fun w4 L=>?_;have E:=F.trans L)
    |(go_at_call 98;refine(y _ E).mono ?_;rintro e w6⟨vZ,rfl,m,O⟩;have H:=E.trans O;have h:=H)
    |(go_at_call 96;with_reducible refine cm (P _ _ m.ints) fun w7 R=>?_;have h:=H.trans R)
    |(go_at_call 99;refine cm (r _ h) fun w9 Y=>?_;have X:=h.trans Y)
    |(go_at_call 97;with_reducible refine cm (d _) fun q Z=>?_;have k:=X.trans Z))
   go_ret;exact⟨j5 (by rw[N.o,c10];rfl),h⟩
 . have hI:=t rfl;clear t f;go_in;go_wp2_with fail;refine cm (C _ (er _)) fun G z=>?_
   go_wp2_with(first
    |(go_at_call 95;refine(s _ z).mono ?_;rintro e p⟨vS,rfl,S,M⟩;have I:=z.trans M;obtain⟨aS,kS,rfl,-⟩:=S.shape)
    |(go_at_call 96;with_reducible refine cm (a _ I) fun w3 K=>?_;have F:=I.trans K)
    |(go_at_call 97;with_reducible refine cm (B _) fun w4 L=>?_;have E:=F.trans L)
    |(go_at_call 98;refine(y _ E).mono ?_;rintro e w6⟨vZ,rfl,m,O⟩;have H:=E.trans O;have h:=H)
    |(go_at_call 96;with_reducible refine cm (P _ _ m.ints) fun w7 R=>?_;have h:=H.trans R)
    |(go_at_call 99;refine cm (r _ h) fun w9 Y=>?_;have X:=h.trans Y)
    |(go_at_call 97;with_reducible refine cm (d _) fun q Z=>?_;have k:=X.trans Z))
   go_ret;exact⟨j5 (by rw[N.o,c10];rfl),k⟩
 . have hI:=f rfl;clear t f;go_in;go_wp2_with fail;refine cm (C _ (er _)) fun G z=>?_
   go_wp2_with(first
    |(go_at_call 95;refine(s _ z).mono ?_;rintro e p⟨vS,rfl,S,M⟩;have I:=z.trans M;obtain⟨aS,kS,rfl,-⟩:=S.shape)
    |(go_at_call 96;with_reducible refine cm (a _ I) fun w3 K=>?_;have F:=I.trans K)
    |(go_at_call 97;with_reducible refine cm (B _) fun w4 L=>?_;have E:=F.trans L)
    |(go_at_call 98;refine(y _ E).mono ?_;rintro e w6⟨vZ,rfl,m,O⟩;have H:=E.trans O)
    |(go_at_call 96;with_reducible refine cm (P _ _ m.ints) fun w7 R=>?_;have h:=H.trans R)
    |(go_at_call 99;refine cm (r _ h) fun w9 Y=>?_;have X:=h.trans Y)
    |(go_at_call 97;with_reducible refine cm (d _) fun q Z=>?_;have k:=X.trans Z))
   go_ret;exact⟨j5 (by rw[N.o,c10];rfl),h⟩
 have hI:=t rfl;clear t f;go_in;go_wp2_with fail;refine cm (C _ (er _)) fun G z=>?_
 go_wp2_with(first
  |(go_at_call 95;refine(s _ z).mono ?_;rintro e p⟨vS,rfl,S,M⟩;have I:=z.trans M;obtain⟨aS,kS,rfl,-⟩:=S.shape)
  |(go_at_call 96;with_reducible refine cm (a _ I) fun w3 K=>?_;have F:=I.trans K)
  |(go_at_call 97;with_reducible refine cm (B _) fun w4 L=>?_;have E:=F.trans L)
  |(go_at_call 98;refine(y _ E).mono ?_;rintro e w6⟨vZ,rfl,m,O⟩;have H:=E.trans O)
  |(go_at_call 96;with_reducible refine cm (P _ _ m.ints) fun w7 R=>?_;have h:=H.trans R)
  |(go_at_call 99;refine cm (r _ h) fun w9 Y=>?_;have X:=h.trans Y)
  |(go_at_call 97;with_reducible refine cm (d _) fun q Z=>?_;have k:=X.trans Z))
 go_ret;exact⟨j5 (by rw[N.o,c10];rfl),k⟩
def enF(l:LI)(a b:Int):Int:=if j0 l a&&j0 l b then c20 (be5 l a.toNat b.toNat) (ord l)else -1
theorem js4{l:LI}{a b:Int}(h:(j0 l a&&j0 l b)=false):enF l a b = -1:=by unfold enF;rw[h];rfl
theorem bf3{l:LI}{a b:Nat}(h:(j0 l a&&j0 l b)=true):enF l a b=c20 (be5 l a b) (ord l):=by unfold enF;rw[if_pos h];rfl
theorem zz164{P:Prop}(h:P:=by have K:k=ord l:=om;subst K;go_wp2_with fail;go_ret;exact⟨o3 (by rw[N.o]),F.trans (q.trans E)⟩):P:=h
theorem cd7(h:c8 w v l):Calls Tryz.prog 81 #[.agg #[v],vi a,vi b] w (RE w (vi (enF l a b))):=by
 obtain⟨B,Z,F,C,H,E,T⟩:=m04 42 h;clear h;have g:=C B E;have A:=bt8 l a b;cases S:(j0 l a&&j0 l b)
 . have N:=zh (js4 S);rw[S]at A;clear S;go_in;go_wp2_with fail;rw[<-Z.o];try rw[T.o]
   go_wp2_with(first|(go_at_call 93;refine cm (T4 _ _ _ _ _ (H _ xq) (b62 _ _ _ _) A) fun P W=>?_;replace E:=E.trans (og xq W);clear W));go_ret;exact zz42
 obtain⟨X,r⟩:=pO.1 S;obtain⟨a,rfl,-,O,Y⟩:=l7 X;obtain⟨b,rfl,-,hc,-⟩:=l7 r;have N:=zh (bf3 S);have t:=zh (l08 S);rw[S]at A;have R:=zh Y;have y:=l8 Y;clear S Y X r;go_in;go_wp2_with fail;rw[<-Z.o];try rw[T.o]
 go_wp2_with(first|(go_at_call 93;refine cm (T4 _ _ _ _ _ (H _ xq) (b62 _ _ _ _) A) fun P W=>?_;replace E:=E.trans (og xq W);clear W));refine(do9 _ _ _ _ _ (H _ E)).mono ?_;rw[t.o];rintro e G⟨j,rfl,L,z⟩;have D:=L.ints;obtain⟨Q,c,u,rfl,n,d,s⟩:=D.op;have x:=j2 (c:=c) elI szI d;rw[j58]at s n x|-;clear d L D;have q:=E.trans z;clear E z;have E:=er G;go_wp2_with fail;go_loopw [7,21] (fun J i wr=>∃k:Nat,k<=ord l/\i=vi k/\J=vi (c20 (be5 l a b) k)/\Ext G wr) (fun _ i _=>ord l-(intOf i).toNat);exact⟨0,om,rfl,rfl,E⟩;case round =>
  clear E;obtain⟨k,V,rfl,rfl,E⟩:=hrel;by_cases U:k<ord l
  . have p:=s k _ U E;have f:=zh (cl5 (be5 l a b) k);have m:=bb3 R.o a b k;obtain⟨I,M⟩:=de4 R.o a b k;obtain⟨he,hf⟩:=jn8 I M;go_wp2_with fail;go_roundw;exact⟨k+1,om,zg,by rw[f.o],E⟩;exact zm1
  . exact zz164
theorem cb8(h:c8 w v l):Calls Tryz.prog 129 #[.agg #[v],vi a,vi b] w (RE w (vi (enF l a b))):=by
 obtain⟨B,Z,F,C,H,E,T⟩:=m04 42 h;clear h;cases S:(j0 l a&&j0 l b)
 . have N:=zh (js4 S);have t:Hid (cb1 l a b=[]):=zh (by unfold cb1;rw[S];rfl);clear S;go_in;go_wp2_with fail;rw[<-Z.o];refine(cc0 _ _ _ _ _ (H _ E)).mono ?_;rw[t.o];rintro e G⟨j,rfl,L,z⟩;obtain⟨Q,c,rfl,-⟩:=L.shape;rw[show([]:LI).length=0 from rfl]at L|-;go_wp2_with fail;go_ret;exact⟨o3 N.o.symm,F.trans (E.trans z)⟩
 obtain⟨X,r⟩:=pO.1 S;obtain⟨a,rfl,-,A,Y⟩:=l7 X;obtain⟨b,rfl,-,P,-⟩:=l7 r;have N:=zh (bf3 S);have t:=zh (l08 S);have R:=zh Y;have m:=l8 Y;have y:(((ord l:Nat):Int) == 0)=false:=(by rw[beq_eq_false_iff_ne];omega);clear S Y X r;go_in;go_wp2_with fail;rw[<-Z.o];refine(cc0 _ _ _ _ _ (H _ E)).mono ?_;rw[t.o];rintro e G⟨j,rfl,L,z⟩;have D:=L.ints;obtain⟨Q,c,p,rfl,n,d,s⟩:=D.op;have x:=j2 (c:=c) elI szI d;rw[j58]at s n x|-;clear d L D;have q:=E.trans z;clear E z;have E:=er G;go_wp2_with fail;go_loopw [8,9] (fun J i wr=>∃k:Nat,k<=ord l/\i=vi k/\J=vi (c20 (be5 l a b) k)/\Ext G wr) (fun _ i _=>ord l-(intOf i).toNat);exact⟨0,om,rfl,rfl,E⟩;case round =>
  clear E;obtain⟨k,V,rfl,rfl,E⟩:=hrel;by_cases U:k<ord l
  . have g:=fun u=>s k _ U (c9 G u);have f:=zh (cl5 (be5 l a b) k);have O:=bb3 R.o a b k;obtain⟨I,M⟩:=de4 R.o a b k;obtain⟨hc,he⟩:=jn8 I M;go_wp2_with fail;refine wl E ?_;(repeat(go_big_quiet_step(first|fail)));refine zd fun W E=>?_;go_wp2_with fail;go_roundw;exact⟨k+1,om,zg,by rw[f.o],E⟩;exact zm1
  . exact zz164
def drF(l:LI)(a b:Int):Bool:=(j0 l a&&j0 l b)&&decide (cnt (j7 l a.toNat b.toNat)=cnt a.toNat*cnt b.toNat)
theorem dt8{l:LI}{a b:Int}(h:(j0 l a&&j0 l b)=false):drF l a b=false:=by unfold drF;rw[h];rfl
theorem je5{l:LI}{a b:Nat}(h:(j0 l a&&j0 l b)=true):drF l a b=(((cnt (j7 l a b):Nat):Int) == (cnt a:Int)*(cnt b:Int)):=by
 unfold drF;rw[h,qe,oA,decide_eq_true_iff,beq_iff_eq];show cnt (j7 l a b)=cnt a*cnt b↔_;constructor;intro e;rw[e];simp;intro e;rw[<-oO]at e;exact Int.ofNat_inj.1 e
theorem je0(a b:Nat):0<=(cnt a:Int)*(cnt b:Int)/\(cnt a:Int)*(cnt b:Int)<=576:=by
 have o:=p8 a;have r:=p8 b;have:=pm o r;rw[<-oO];omega
def bc3(l:LI)(a b:Int):Bool:=drF l a b&&decide (j7 l a.toNat b.toNat=l6 l)
theorem ji7{l:LI}{a b:Int}(h:drF l a b=false):bc3 l a b=false:=by unfold bc3;rw[h];rfl
theorem j63{l:LI}{a b:Nat}(h:drF l a b=true):bc3 l a b=(((j7 l a b:Nat):Int) == (l6 l:Int)):=by
 unfold bc3;rw[h,qe,oA,decide_eq_true_iff,beq_iff_eq];show j7 l a b=l6 l↔_;omega
theorem dt9{l:LI}{a b:Int}(h:drF l a b=true):(j0 l a&&j0 l b)=true:=by unfold drF at h;rw[ow]at h;exact h.1
theorem d15(h:c8 w v l):Calls Tryz.prog 83 #[.agg #[v],vi a,vi b] w (RE w (.bool (drF l a b))):=by
 obtain⟨B,Z,F,C,H,E,s⟩:=m04 42 h;clear h;have x:=C B E;have A:=bt8 l a b;cases S:(j0 l a&&j0 l b)
 . have N:=zh (dt8 S);rw[S]at A;clear S;go_in;go_wp2_with fail;rw[<-Z.o];try rw[s.o]
   go_wp2_with(first|(go_at_call 93;refine cm (T4 _ _ _ _ _ (H _ xq) (b62 _ _ _ _) A) fun P V=>?_;replace E:=E.trans (og xq V);clear V));exact zz9
 obtain⟨U,r⟩:=pO.1 S;obtain⟨a,rfl,-,M,Y⟩:=l7 U;obtain⟨b,rfl,-,c,-⟩:=l7 r;have N:=zh (je5 S);rw[S]at A;have R:=zh Y;have u:=H7 Y a b;obtain⟨m,f⟩:=je0 a b;have Q:=fun W=>C6 (j7 l a b) u W;have q:=fun W=>C6 a M W;have i:=fun W=>C6 b c W;clear S Y U r;go_in;go_wp2_with fail;rw[<-Z.o];try rw[s.o]
 go_wp2_with(first|(go_at_call 93;refine cm (T4 _ _ _ _ _ (H _ xq) (b62 _ _ _ _) A) fun P V=>?_;replace E:=E.trans (og xq V);clear V)|(go_at_call 75;refine cx (J2 _ _ _ _ _ (H _ E) (R) (M) (c)) E fun P E=>?_)|(go_at_call 78;(first|(with_reducible refine od (Q _) ?_)|(with_reducible refine od (q _) ?_)|(with_reducible refine od (i _) ?_));rintro e P⟨rfl,rfl⟩));exact zz9
theorem ct3(h:c8 w v l):Calls Tryz.prog 147 #[.agg #[v],vi a,vi b] w (RE w (.bool (drF l a b))):=by
 obtain⟨B,Z,F,C,H,E,z⟩:=m04 42 h;clear h;have x:=C B E;cases U:j0 l a
 . have N:=zh (dt8 (l:=l) (a:=a) (b:=b) (by rw[U];rfl));go_in;go_wp2_with fail;rw[<-Z.o];go_wp2_with(first|(go_at_call 124;refine cx (m6 _ _ _ _ (H _ E) (U)) E fun P E=>?_));exact zz9
 cases r:j0 l b
 . have N:=zh (dt8 (l:=l) (a:=a) (b:=b) (by rw[U,r];rfl));have c:=fun W (D:Ext B W)=>m6 v l a W (H W D) U;have T:=fun W (D:Ext B W)=>m6 v l b W (H W D) r;go_in;go_wp2_with fail;rw[<-Z.o];go_wp2_with(first|(go_at_call 124;(first|(with_reducible refine od (c _ E) ?_)|(with_reducible refine od (T _ E) ?_));rintro e P⟨rfl,V⟩;replace E:=E.trans V;clear V));exact zz9
 have c:=fun W (D:Ext B W)=>m6 v l a W (H W D) U;have T:=fun W (D:Ext B W)=>m6 v l b W (H W D) r;have S:(j0 l a&&j0 l b)=true:=(by rw[U,r];rfl);obtain⟨a,rfl,-,A,Y⟩:=l7 U;obtain⟨b,rfl,-,d,-⟩:=l7 r;have N:=zh (je5 S);have R:=zh Y;have s:=H7 Y a b;obtain⟨m,M⟩:=je0 a b;have Q:=fun W=>o7 (j7 l a b) s W;have q:=fun W=>o7 a A W;have i:=fun W=>o7 b d W;clear S Y U r;go_in;go_wp2_with fail;rw[<-Z.o];go_wp2_with(first|(go_at_call 124;(first|(with_reducible refine od (c _ E) ?_)|(with_reducible refine od (T _ E) ?_));rintro e P⟨rfl,V⟩;replace E:=E.trans V;clear V)|(go_at_call 145;refine cx (E6 _ _ _ _ _ (H _ E) (R) (A) (d)) E fun P E=>?_)|(go_at_call 125;(first|(with_reducible refine od (Q _) ?_)|(with_reducible refine od (q _) ?_)|(with_reducible refine od (i _) ?_));rintro e P⟨rfl,rfl⟩));exact zz9
theorem ce1(h:c8 w v l):Calls Tryz.prog 84 #[.agg #[v],vi a,vi b] w (RE w (.bool (bc3 l a b))):=by
 obtain⟨B,Z,F,C,H,E,s⟩:=m04 42 h;clear h;have k:=fun U=>C _ (c9 B U);have c:=fun U=>d15 v l a b (Lat B U) (H _ (c9 B U));cases hd:drF l a b
 . have N:=zh (ji7 hd);rw[hd]at c;go_in;go_wp2_with fail;rw[<-Z.o];refine wl E ?_;(repeat(go_big_quiet_step(first|(go_at_call 83;exact oa (c _)))));refine zd fun W E=>?_;go_wp2_with fail;exact zz9
 rw[hd]at c;obtain⟨V,r⟩:=pO.1 (dt9 hd);obtain⟨a,rfl,-,A,Y⟩:=l7 V;obtain⟨b,rfl,-,d,-⟩:=l7 r;have N:=zh (j63 hd);have R:=zh Y;clear Y V r hd;go_in;go_wp2_with fail;rw[<-Z.o];refine wl E ?_;(repeat(go_big_quiet_step(first|(go_at_call 83;exact oa (c _))|(go_at_call 75;exact oa (J2 _ _ _ _ _ (H _ (c9 B _)) (R) (A) (d)))|(go_at_call 202;exact oa (J4 _ _ _ (H _ (c9 B _)) (R))))));refine zd fun W E=>?_;go_wp2_with fail;exact zz9
theorem cb9(h:c8 w v l):Calls Tryz.prog 148 #[.agg #[v],vi a,vi b] w (RE w (.bool (bc3 l a b))):=by
 obtain⟨B,Z,F,C,H,E,s⟩:=m04 42 h;clear h;have k:=fun U=>C _ (c9 B U);have c:=fun U=>ct3 v l a b (Lat B U) (H _ (c9 B U));cases hd:drF l a b
 . have N:=zh (ji7 hd);rw[hd]at c;go_in;go_wp2_with fail;rw[<-Z.o];refine wl E ?_;(repeat(go_big_quiet_step(first|(go_at_call 147;exact oa (c _)))));refine zd fun W E=>?_;go_wp2_with fail;exact zz9
 rw[hd]at c;obtain⟨V,r⟩:=pO.1 (dt9 hd);obtain⟨a,rfl,-,A,Y⟩:=l7 V;obtain⟨b,rfl,-,d,-⟩:=l7 r;have N:=zh (j63 hd);have R:=zh Y;have O:=l8 Y;have S:=o6 (n:=ord l) om;have p:=bc9 (n:=ord l) O.2;have P:=X9 (ord l);have i:((pw (ord l):Nat):Int)-1=((l6 l:Nat):Int):=(by unfold l6;omega);clear Y V r hd;go_in;go_wp2_with fail;rw[<-Z.o];refine wl E ?_;(repeat(go_big_quiet_step(first|(go_at_call 147;exact oa (c _))|(go_at_call 145;exact oa (E6 _ _ _ _ _ (H _ (c9 B _)) (R) (A) (d)))|(go_at_call 103;exact oa (o4 _ _ _ (H _ (c9 B _)) (R))))));refine zd fun W E=>?_;go_wp2_with fail;exact zz9
def knI(l:LI)(a b:Int):Int:=if B8 l a b then knF l a.toNat b.toNat else -1
theorem dy0{l:LI}{a b:Int}(h:B8 l a b=false):knI l a b = -1:=by unfold knI;rw[h];rfl
theorem c42{l:LI}{a b:Nat}(h:B8 l a b=true):knI l a b=knF l a b:=by unfold knI;rw[h];rfl
theorem bv8(h:c8 w v l):Calls Tryz.prog 144 #[.agg #[v],vi a,vi b] w (RE w (vi (knI l a b))):=by
 cases f:B8 l a b;rw[dy0 f];exact bz3 v l a b w h f;have H:=f;obtain⟨m,n,rfl,rfl,-⟩:=N6 f;rw[c42 H];exact bv9 v l m n w h H
theorem dl6(h:c8 w v l)(f:B8 l a b=false):Calls Tryz.prog 197 #[.agg #[v],vi a,vi b] w (RE w (.tuple #[vi 0,vi 0,vi 0,.bool false])):=by
 obtain⟨B,Z,F,C,H,E,s⟩:=m04 42 h;clear h;go_in;go_wp2_with fail;rw[<-Z.o];go_wp2_with(first|(go_at_call 74;refine cx (N4 _ _ _ _ _ (H _ E) f) E fun e E=>?_));exact bodyPost_ret (v:=.tuple #[vi 0,vi 0,vi 0,.bool false]) (by simp[results,Tryz.results197,go_sem]) rfl ⟨rfl,F.trans E⟩
theorem d93(a b:Nat)(w:World)(h:c8 w v l)(f:B8 l a b=true):Calls Tryz.prog 197 #[.agg #[v],vi a,vi b] w (RE w (.tuple #[vi (kpH l a b:Nat),vi (j7 l (kpH l a b) a:Nat),vi (j7 l (kpH l a b) b:Nat),.bool true])):=by
 obtain⟨B,Z,F,C,H,E,z⟩:=m04 42 h;clear h;have x:=fun U=>C _ (c9 B U);obtain⟨m,n,S,V,T,d,N,-,A,c,Y,-,-⟩:=N6 f;obtain rfl:a=m:=om;obtain rfl:b=n:=om;have R:=zh Y;have s:kpH l a b<2^24:=nlt (be4 l _) (E7 Y);have g:j0 l ((j7 l a b:Nat):Int)=true:=X5 Y (bg8 (m0 Y) a b);have k:F0 l (j7 l a b)=kpH l a b:=rfl;have p:=zh k;clear Y S V k T d;go_in;go_wp2_with fail;rw[<-Z.o];go_wp2_with(first|(go_at_call 74;refine cx (N4 _ _ _ _ _ (H _ E) f) E fun e E=>?_));refine wl E ?_;(repeat(go_big_quiet_step(first|(go_at_call 75;exact oa (J2 _ _ _ _ _ (H _ (c9 B _)) (R) (A) (c)))|(go_at_call 86;exact oa (b58 _ _ _ _ (H _ (c9 B _)) g)))));refine zd fun W E=>?_;rw[p.o];go_wp2_with fail;refine wl E ?_;(repeat(go_big_quiet_step(first|(go_at_call 75;exact oa (J2 _ _ _ _ _ (H _ (c9 B _)) (R) (s) (A)))|(go_at_call 75;exact oa (J2 _ _ _ _ _ (H _ (c9 B _)) (R) (s) (c))))));refine zd fun W E=>?_;go_wp2_with fail;exact bodyPost_ret (v:=.tuple #[vi (kpH l a b:Nat),vi (j7 l (kpH l a b) a:Nat),vi (j7 l (kpH l a b) b:Nat),.bool true]) (by simp[results,Tryz.results197,go_sem]) rfl ⟨rfl,F.trans E⟩
theorem d16(h:c8 w v l):Calls Tryz.prog 79 #[.agg #[v],vi a,vi b] w (RE w (vi (knI l a b))):=by
 obtain⟨B,Z,F,C,H,E,z⟩:=m04 42 h;clear h;cases f:B8 l a b
 . have N:=zh (dy0 f);go_in;go_wp2_with fail;rw[<-Z.o];go_wp2_with(first|(go_at_call 197;refine cx (dl6 _ _ _ _ _ (H _ E) f) E fun P E=>?_));go_ret;exact zz42
 have j:=f;obtain⟨m,n,rfl,rfl,T,c,-,-,A,d,Y,-,-⟩:=N6 f;have s:kpH l m n<2^24:=nlt (be4 l _) (E7 Y);have hx1:=H7 Y (kpH l m n) m;have hx2:=H7 Y (kpH l m n) n;have N:Hid (knI l m n=(cnt (j7 l (kpH l m n) m):Int)+cnt (j7 l (kpH l m n) n)-cnt (kpH l m n)):=zh (by
  rw[c42 j];unfold knF kpH;rw[bz8 l m,bz8 l n])
 have Q:=fun W=>C6 (j7 l (kpH l m n) m) hx1 W;have q:=fun W=>C6 (j7 l (kpH l m n) n) hx2 W;have i:=fun W=>C6 (kpH l m n) s W;have R:=p8 (j7 l (kpH l m n) m);have r:=p8 (j7 l (kpH l m n) n);have k:=p8 (kpH l m n);clear Y f;go_in;go_wp2_with fail;rw[<-Z.o];go_wp2_with(first|(go_at_call 197;refine cx (d93 _ _ _ _ _ (H _ E) j) E fun P E=>?_)|(go_at_call 78;(first|(with_reducible refine od (Q _) ?_)|(with_reducible refine od (q _) ?_)|(with_reducible refine od (i _) ?_));rintro e P⟨rfl,rfl⟩));go_ret;exact zz42
end Go.Zz
