/- Lists of numbers out of texts: readNumbers of the program, l35List of the reference. -/
import Derived.Test.YtjhoafjeopcheaaGreatGr14
set_option linter.all false
set_option maxHeartbeats 2000000
set_option maxRecDepth 8000
namespace Go.Zz
open Go.RowKit Go.Proofs
variable(v:Value)(l:LI)(s:Ba)(w:World)(X t:Ba){W wr z P:World}{n c r e g i k:Nat}{M:LN}{A:Option Addr}{b:Bool}{u:Value}{x:Ba}
theorem la3{w:World}{l:LI}(O:Own 3 z w u l):∀g,u.ownBlock=some g->∃c,Blk w g 3 c:=fun g e=>by
 obtain⟨⟨-,r⟩,-⟩:=O
 rcases r with⟨rfl,-⟩|⟨G,cap,C,rfl,-,h,-⟩
 . cases e
 . cases e;exact⟨C,h⟩
theorem N2.grownI{w:World}{v:Value}{L:List Ba}{l:LI}(h:N2 P w v L)(O:Own 3 z w u l)(H:w.grownBy W u.ownBlock):N2 P W v L:=by
 refine⟨h.1.kept H ?_,h.2⟩;cases V:v.ownBlock with
 |none=>simp
 |some g =>
  simp;intro e;obtain⟨c,C⟩:=la3 O g e.symm;obtain⟨⟨-,r⟩,-⟩:=h;rcases r with⟨rfl,-⟩|⟨G,cap,U,rfl,-,b,-⟩
  . cases V
  . cases V;unfold Blk at C;rw[C]at b;simp at b
theorem zz167{P:Prop}(h:P:=by obtain⟨G,e,C⟩:=l i J;simp only[Option.some.injEq,Addr.mk.injEq,and_true]at e;rw[e];exact C):P:=h
theorem N2.indexS{w:World}{v:Value}{L:List Ba}(h:N2 P w v L)(H:0<L.length):∃g c,v=.slice (some (aD g 0)) L.length c /\
 (∀i,i<L.length->w.cell? (aD g i)=some (.string (m8 L i)))/\∀(i:Nat) W,i<L.length->(Instr.indexAt 29 (.slice (some (aD g 0)) L.length c) (vi (i:Int))).run Tryz.prog W=.ok (.pointer (some (aD g i))) W:=by
 obtain⟨A,c,rfl,n,l⟩:=h.strs;obtain⟨g,rfl,-⟩:=l 0 H;refine⟨g,c,rfl,fun i J=>?_,fun i W J=>?_⟩
 exact zz167;exact zz32
theorem J8{L:List Ba}(h:i<L.length):m8 L i∈L:=by
 simp[m8,List.getD,h]
theorem bi8(S:s.size<=100000):
 Calls Tryz.prog 60 #[.string s] w fun e f=>∃v,e=.returned (.tuple #[v,.bool (rnB s)])/\c8 f v (rnV s)/\Ext w f:=by
 have N:=zh (fun k V h=>lg8 (s:=s) (k:=k) V h);have y:=zh (fun h=>jy8 (s:=s) h);obtain⟨ha,hb,hf⟩:=K6 44 s;have R:=l9 (TI:=3) (n:=0) om (er w) [] rfl;change Own _ _ (w.alloc (.cells #[] 3)) _ _ at R;have F:=(er w).alloc (.cells #[] 3);obtain⟨d,A⟩:=nq (w.alloc (.cells #[] 3));have Hc:Hid (w.heap.size+1=d.heap.size):=zh (by rw[A];simp);rw[<-A]at R F;have Hb:=zh A;clear A;have hcut:=br7 s 44 d S;go_in;go_wp2_with(go_at_call 13;rw[<-Hb.o];refine hcut.mono ?_;rintro e G⟨v1,rfl,H,z⟩;have r:=R.ext z;have hc:=F.trans z;obtain⟨g,c,rfl,l,B⟩:=H.indexS om);have Hr:=zh ha;have Ha:=zh l;obtain⟨L,he⟩:=nq (p7 44 s);rw[<-he]at hb hf H B N y Hr Ha|-;obtain⟨M,Y⟩:=nq (L.length);rw[<-Y]at hb hf H B N y Ha|-;have m:=zh Y;clear l hcut ha R F z Y he;go_loopw [4,13] (fun ov D wr=>∃k:Nat,k<=M/\D=vi k/\Own 3 w wr ov (pIs (L.take k))/\N2 d wr (.slice (some (aD g 0)) M c) L/\Ext w wr/\(∀i,i<k->(pI (m8 L i)).2=true)) (fun _ D _=>M-(intOf D).toNat);exact⟨0,om,rfl,r,H,hc,om⟩
 clear r H hc;obtain⟨k,V,rfl,O,H,E,hl⟩:=hrel;have Hl:=zh hl;clear hl;by_cases U:k<M
 . have ht:=H.strs;obtain⟨ao,c',hu,-,hh⟩:=ht;obtain⟨g',e1,C⟩:=hh k (by rw[<-m.o];exact U);injection hu with q1 q2 q3;rw[e1]at q1;simp only[Option.some.injEq,Addr.mk.injEq,and_true]at q1;rw[<-q1]at C;clear hh e1 q1 q2 q3;have hz:(m8 L k).size<=100000:=(by have:=Hr.o _ (J8 (L:=L) (i:=k) (by rw[<-m.o];exact U));omega);have P:=fun W=>bh0 (m8 L k) W hz;obtain⟨x,K⟩:=nq (m8 L k);have T:=zh (cy6 L k (by rw[<-m.o];exact U));have Hp:Hid (∀b,(pI x).2=b->(pI (m8 L k)).2=b):=zh (fun b h=>by rw[<-K];exact h);rw[<-K]at C P T;clear K hz;obtain⟨n,q⟩:=nq ((pI x).1);rw[<-q]at P T;clear q;have hr:(pIs (L.take k)).length<17592186044416:=(by unfold pIs;rw[oG,ol];omega);cases p:(pI x).2
   . rw[p]at P;have Z:=zh (N.o k U (Hp.o _ p));clear p;go_wp2_with(go_at_call 62;refine cm (P _) fun w2 I=>?_);exact br (.tuple #[.slice none 0 0,.bool false]) ⟨_,by rw[Z.o.1],by rw[Z.o.2];exact c8.nil _,E.trans I⟩
   rw[p]at P;have Hq:=zh (Hp.o _ p);clear p;go_wp2_with(first|(go_at_call 62;refine cm (P _) fun w2 I=>?_;have X:=O.ext I;have hq:=H.ext I)|(at_builtin;refine b33 slI rfl _ _ rfl w _ _ _ _ X (E.trans I) hr rfl rfl ?_;intro v3 w3 ho hg hw));go_roundw;exact⟨k+1,om,zg,by rw[T.o];exact ho,hq.grownI X hg,(E.trans I).grown hg (fun j hj=>(X.blk j hj).1),fun i J=>by by_cases e:i=k;(subst e;exact Hq.o);exact Hl.o i om⟩;exact zm1
 have hm:k=M:=om;subst hm;have Z:=zh (y.o (fun i J=>Hl.o i J));have Ht:Hid (pIs (L.take k)=pIs L):=zh (by rw[m.o,oz]);go_wp2_with fail;exact bodyPost_ret (v:=.tuple #[_,.bool true]) (by simp[results,Tryz.results60,go_sem];rfl) rfl ⟨_,by rw[Z.o.1],by rw[Z.o.2,<-Ht.o];exact O.ints,E⟩
theorem ck6(S:s.size<=100000):
 Calls Tryz.prog 36 #[.string s] w fun e f=>∃v,e=.returned (.tuple #[v,.bool (rnB s)])/\c8 f v (rnV s)/\Ext w f:=by
 have N:=zh (fun k V h=>lg8 (s:=s) (k:=k) V h);have y:=zh (fun h=>jy8 (s:=s) h);obtain⟨hb,hc,hg⟩:=K6 44 s;have R:=l9 (TI:=3) (n:=0) om (er w) [] rfl;change Own _ _ (w.alloc (.cells #[] 3)) _ _ at R;have F:=(er w).alloc (.cells #[] 3);obtain⟨d,A⟩:=nq (w.alloc (.cells #[] 3));have Hc:Hid (w.heap.size+1=d.heap.size):=zh (by rw[A];simp);rw[<-A]at R F;have Hb:=zh A;clear A;have hcut:=bl3 s 44 d S;go_in;go_wp2_with(go_at_call 11;rw[<-Hb.o];refine hcut.mono ?_;rintro e G⟨v1,rfl,H,z⟩;have r:=R.ext z;have he:=F.trans z;obtain⟨g,c,rfl,C,B⟩:=H.indexS om);have Hr:=zh hb;have Ha:=zh C;obtain⟨L,hf⟩:=nq (p7 44 s);rw[<-hf]at hc hg H B N y Hr Ha|-;obtain⟨M,Y⟩:=nq (L.length);rw[<-Y]at hc hg H B N y Ha|-;have m:=zh Y;clear C hcut hb R F z Y hf;go_loopw [4,6] (fun ov D wr=>∃k:Nat,k<=M/\D=vi k/\Own 3 w wr ov (pIs (L.take k))/\N2 d wr (.slice (some (aD g 0)) M c) L/\Ext w wr/\(∀i,i<k->(pI (m8 L i)).2=true)) (fun _ D _=>M-(intOf D).toNat);exact⟨0,om,rfl,r,H,he,om⟩
 clear r H he;obtain⟨k,V,rfl,O,H,E,hl⟩:=hrel;have Hl:=zh hl;clear hl;by_cases U:k<M
 . have ht:=H.strs;obtain⟨ao,c',hw,-,hm⟩:=ht;obtain⟨g',e1,ha⟩:=hm k (by rw[<-m.o];exact U);injection hw with q1 q2 q3;rw[e1]at q1;simp only[Option.some.injEq,Addr.mk.injEq,and_true]at q1;rw[<-q1]at ha;clear hm e1 q1 q2 q3;have hz:(m8 L k).size<=100000:=(by have:=Hr.o _ (J8 (L:=L) (i:=k) (by rw[<-m.o];exact U));omega);have P:=fun W=>bd0 (m8 L k) W hz;obtain⟨x,K⟩:=nq (m8 L k);have T:=zh (cy6 L k (by rw[<-m.o];exact U));have Hp:Hid (∀b,(pI x).2=b->(pI (m8 L k)).2=b):=zh (fun b h=>by rw[<-K];exact h);rw[<-K]at ha P T;clear K hz;obtain⟨n,q⟩:=nq ((pI x).1);rw[<-q]at P T;clear q;have hu:(pIs (L.take k)).length<17592186044416:=(by unfold pIs;rw[oG,ol];omega);cases p:(pI x).2
   . rw[p]at P;have Z:=zh (N.o k U (Hp.o _ p));clear p;go_wp2_with(go_at_call 39;refine cm (P _) fun l I=>?_);exact br (.tuple #[.slice (some (aD l.heap.size 0)) 0 0,.bool false]) ⟨_,by rw[Z.o.1],by rw[Z.o.2];exact(l9 (TI:=3) (n:=0) om (er l) [] rfl).ints,(E.trans I).alloc _⟩
   rw[p]at P;have Hq:=zh (Hp.o _ p);clear p;go_wp2_with(first|(go_at_call 39;refine cm (P _) fun l I=>?_;have X:=O.ext I;have hr:=H.ext I)|(at_builtin;refine b33 slI rfl _ _ rfl w _ _ _ _ X (E.trans I) hu rfl rfl ?_;intro v3 w3 hq hh hy));go_roundw;exact⟨k+1,om,zg,by rw[T.o];exact hq,hr.grownI X hh,(E.trans I).grown hh (fun j hj=>(X.blk j hj).1),fun i J=>by by_cases e:i=k;(subst e;exact Hq.o);exact Hl.o i om⟩;exact zm1
 have ho:k=M:=om;subst ho;have Z:=zh (y.o (fun i J=>Hl.o i J));have Ht:Hid (pIs (L.take k)=pIs L):=zh (by rw[m.o,oz]);go_wp2_with fail;exact bodyPost_ret (v:=.tuple #[_,.bool true]) (by simp[results,Tryz.results36,go_sem];rfl) rfl ⟨_,by rw[Z.o.1],by rw[Z.o.2,<-Ht.o];exact O.ints,E⟩
theorem jo7(L:Value)(X:LI)(w:World)(h:c8 w v l)(y:c8 w L X):Calls Tryz.prog 330 #[.agg #[v],L] w (RE w (.tuple #[vi (soV l X),.bool (soB l X)])):=by
 obtain⟨B,Z,F,C,H,E,q⟩:=m04 42 h;clear h;obtain⟨p,c,R,rfl,hc,r,s⟩:=y.op;have hx:=j2 (c:=c) elI szI r;clear r y;go_in;go_wp2_with fail;rw[<-Z.o];go_loopw [6,11] (fun S J wr=>∃(k a:Nat),k<=X.length/\J=vi k/\S=vi a/\a<2^24/\Ext B wr/\Hid (soG l X 0=soG l (X.drop k) a)) (fun _ J _=>X.length-(intOf J).toNat);exact⟨0,0,om,rfl,rfl,by decide,E,zh rfl⟩
 clear E;obtain⟨k,a,V,rfl,rfl,M,E,x⟩:=hrel;have kb:=C _ E;by_cases U:k<X.length
 . have hd:=c77 X k U;have g:=s k wr U (F.trans E);cases d:M7 l (nth X k)
   . have N:Hid (soB l X=false/\soV l X=0):=zh (d78 (by rw[x.o,hd,ji2 d]));have I:=c41 v l (nth X k) wr (H _ E);rw[d]at I;clear hd d;go_wp2_with(go_at_call 72;refine cm I fun G A=>?_);exact br (.tuple #[vi 0,.bool false]) ⟨by rw[N.o.1,N.o.2],F.trans (E.trans A)⟩
   have I:=c41 v l (nth X k) wr (H _ E);rw[d]at I;obtain⟨n,m,ho,Y⟩:=b94 d;have hf:=l8 Y;rw[m]at hd d I g;have Hx:=zh m;have he:=o6 (n:=n) om;have hr:=H9 (o:=a) (z:=n) M om;cases T:a.testBit n
   . have i:=T2 a n M om (b:=false);have N:Hid (soG l X 0=soG l (X.drop (k+1)) (a ||| 2^n)):=zh (by rw[x.o,hd,d77 d T]);have j:a ||| 2^n<2^24:=ox M (oJ om om)
     have f:=fun W=>i W T;clear hd d T Y m i;have hi:∀W,Ext wr W->W.cell? (R k)=some (vi (n:Int)):=fun W D=>D.cell g;go_wp2_with(first|(go_at_call 72;refine cm I fun G A=>?_)|(go_at_call 205;refine(f _).mono ?_;rintro e P⟨rfl,rfl⟩));go_roundw;exact⟨k+1,a ||| 2^n,om,zg,rfl,j,E.trans A,N⟩;exact zm1
   have i:=T2 a n M om (b:=true);have N:Hid (soB l X=false/\soV l X=0):=zh (d78 (by rw[x.o,hd,dd9 T]));have f:=fun W=>i W T;clear hd d T Y m i;go_wp2_with(first|(go_at_call 72;refine cm I fun G A=>?_)|(go_at_call 205;refine(f _).mono ?_;rintro e P⟨rfl,rfl⟩));exact br (.tuple #[vi 0,.bool false]) ⟨by rw[N.o.1,N.o.2],F.trans (E.trans A)⟩
 have K:k=X.length:=om;have N:Hid (soB l X=d7 l/\soV l X=(a:Int)):=zh (ji3 (by rw[x.o,K,qi];rfl));clear K;have O:=o9 v l wr (H _ E);go_wp2_with(refine cm O fun G A=>?_);exact br (.tuple #[vi a,.bool (d7 l)]) ⟨by rw[N.o.1,N.o.2],F.trans (E.trans A)⟩
theorem jr8(c:Int):p7 c mtB=[mtB]:=rfl
theorem lz6:pI mtB=(0,false):=jx5 (by decide)
theorem lz8(a:Nat):X8 l (p7 44 mtB) a=none:=by
 rw[jr8];exact c50 (by rw[lz6];simp)
theorem b65{s:Ba}(h:¬s=mtB):s.toList.isEmpty=false:=by
 refine b32 ?_;rcases Nat.eq_zero_or_pos s.size with e|e
 exact absurd (jw0 s e) h;exact e
theorem bn6(h:decide (s=t)=b):(s.toList == t.data.toList)=b:=by
 rw[<-pi,b05,h]
theorem js2(L:List Ba)(k:Nat)(h:k<L.length):L.drop k=m8 L k :: L.drop (k+1):=by
 rw[qf h];simp[m8,List.getD,h]
theorem L5(h:c8 w v l)(S:s.size<=100000):Calls Tryz.prog 28 #[.agg #[v],.string s] w (RE w (.tuple #[vi (psV l s).1,.bool (psV l s).2])):=by
 obtain⟨B,Z,F,C,H,E,Hc⟩:=m04 42 h;clear h;by_cases N:s=bc8
 . have Hv:=zh (dc7 (l:=l) N);have hq:=bn6 s bc8 (decide_eq_true N);change (s.toList == [110,111,110,101])=true at hq;have hD:s.toList.isEmpty=false:=b65 (by rw[N];decide);have O:=fun W h=>I7 v l 0 W h;obtain⟨u,A⟩:=nq (fsF l 0);rw[<-A]at O;have X:=b05 (x:=u) (y:=s);cases hc:d7 l
   . have j:decide (u=s)=false:=decide_eq_false (by rw[A,N,bn4 (by unfold j0;rw[hc];rfl)];decide);rw[j]at X;have f:Hid (psV l s=(0,false)):=zh (by rw[Hv.o,hc]);clear j A N;go_in;go_wp2_with(go_at_call 73;rw[<-Z.o];refine cm (O _ (H _ E)) fun q I=>?_);exact br (.tuple #[vi 0,.bool false]) ⟨by rw[f.o],F.trans I⟩
   have j:decide (u=s)=true:=decide_eq_true (by
    have r:j0 l ((0:Nat):Int)=true:=(by unfold j0;rw[hc];simp;exact Int.pow_pos om);rw[A,N,show(0:Int)=((0:Nat):Int)from rfl,bk2 r];rfl)
   rw[j]at X;have f:Hid (psV l s=(0,true)):=zh (by rw[Hv.o,hc]);clear j A N;go_in;go_wp2_with(go_at_call 73;rw[<-Z.o];refine cm (O _ (H _ E)) fun q I=>?_);exact br (.tuple #[vi 0,.bool true]) ⟨by rw[f.o],F.trans I⟩
 have Ha:=zh (fun r=>d60 (l:=l) N r);have Hb:=zh (fun a r=>d61 (l:=l) (a:=a) N r);have hq:=bn6 s bc8 (decide_eq_false N);change (s.toList == [110,111,110,101])=false at hq;obtain⟨hf,hm,hw⟩:=K6 44 s;have Hm:Hid (∀a,X8 l (p7 44 s) 0=some a->s.toList.isEmpty=false):=zh (fun a T=>b65 fun e=>by rw[e,lz8]at T;cases T);have hcut:=br7 s 44 B S;clear N;go_in;go_wp2_with(go_at_call 13;rw[<-Z.o];refine hcut.mono ?_;rintro e G⟨v1,rfl,hL,hy⟩;obtain⟨g,c,rfl,hl,hj⟩:=hL.indexS om);have Hr:=zh hf;obtain⟨L,ht⟩:=nq (p7 44 s);rw[<-ht]at hm hw hL hj hl Ha Hb Hm Hr|-;obtain⟨M,hM⟩:=nq (L.length);have Hs:Hid (∀i W,i<M->Ext G W->W.cell? (aD g i)=some (.string (m8 L i))):=zh fun i W J D=>D.cell (hl i (by rw[<-hM];exact J));rw[<-hM]at hm hw hL hj|-;have HM:=zh hM;clear hl hcut hf hM ht hL;go_loopw [6,16] (fun av iv wr=>∃(k a:Nat),k<=M/\iv=vi k/\av=vi a/\a<2^24/\Ext G wr/\Hid (X8 l L 0=X8 l (L.drop k) a)) (fun _ iv _=>M-(intOf iv).toNat);exact⟨0,0,om,rfl,rfl,by decide,er _,zh rfl⟩;case round =>
  obtain⟨k,a,V,rfl,rfl,T,hr,HH⟩:=hrel;have b:=hy.trans hr;have kb:=C _ b;by_cases U:k<M
  . have hB:=Hs.o k wr U hr;have hz:(m8 L k).size<=100000:=(by have:=Hr.o _ (J8 (L:=L) (i:=k) (by rw[<-HM.o];exact U));omega);have m:Hid (X8 l L 0=X8 l (m8 L k :: L.drop (k+1)) a):=zh (by rw[HH.o,<-js2 L k (by rw[<-HM.o];exact U)]);have P:=fun W=>bh0 (m8 L k) W hz;obtain⟨x,K⟩:=nq (m8 L k);rw[<-K]at hB P m;clear K hz HH;cases p:(pI x).2
    . rw[p]at P;have f:=zh (Ha.o (by rw[m.o];exact c50 (by rw[p];simp)));obtain⟨n,N⟩:=nq ((pI x).1);rw[<-N]at P;clear p N m;go_wp2_with(go_at_call 62;refine cm (P _) fun q I=>?_);exact br (.tuple #[vi 0,.bool false]) ⟨by rw[f.o],F.trans (b.trans I)⟩
    . rw[p]at P;cases d:M7 l (pI x).1
      . have R:=fun W h=>c41 v l (pI x).1 W h;rw[d]at R;have f:=zh (Ha.o (by rw[m.o];exact c50 (by rw[d];simp)));obtain⟨n,N⟩:=nq ((pI x).1);rw[<-N]at P R;clear N p d m;go_wp2_with(first|(go_at_call 62;refine cm (P _) fun q I=>?_;have ka:=C _ (b.trans I))|(go_at_call 72;refine cm (R _ (H _ (b.trans I))) fun w3 he=>?_));exact br (.tuple #[vi 0,.bool false]) ⟨by rw[f.o],F.trans (b.trans (I.trans he))⟩
      . have R:=fun W h=>c41 v l (pI x).1 W h;rw[d]at R;obtain⟨n,N,hH,Y⟩:=b94 d;have hG:=l8 Y;have Hn:Hid (X8 l L 0=X8 l (L.drop (k+1)) (a ||| 2^n)):=zh (by rw[m.o,jh7 p d N]);rw[N]at R P;have hf:=o6 (n:=n) om;have hI:=H9 (o:=a) (z:=n) T om;have hC:a ||| 2^n<2^24:=ox T (oJ om om)
        clear N p d Y m;go_wp2_with(first|(go_at_call 62;refine cm (P _) fun q I=>?_;have ka:=C _ (b.trans I))|(go_at_call 72;refine cm (R _ (H _ (b.trans I))) fun w3 he=>?_));go_roundw;exact⟨k+1,a ||| 2^n,om,zg,rfl,hC,hr.trans (I.trans he),Hn⟩;exact zm1
  . have hA:k=M:=om;subst hA;have ho:X8 l L 0=some a:=(by rw[HH.o,HM.o,qi];rfl);have hD:=Hm.o a ho;have He:=zh (Hb.o a ho);have O:=fun W h=>I7 v l a W h;obtain⟨u,A⟩:=nq (fsF l a);rw[<-A]at O He;have X:=b05 (x:=u) (y:=s);clear A ho;by_cases j:u=s
    . rw[decide_eq_true j]at X;have f:=zh (He.o.trans (if_pos j));clear j;go_wp2_with(go_at_call 73;refine cm (O _ (H _ b)) fun q I=>?_);exact br (.tuple #[vi a,.bool true]) ⟨by rw[f.o],F.trans (b.trans I)⟩
    . rw[decide_eq_false j]at X;have f:=zh (He.o.trans (if_neg j));clear j;go_wp2_with(go_at_call 73;refine cm (O _ (H _ b)) fun q I=>?_);exact br (.tuple #[vi 0,.bool false]) ⟨by rw[f.o],F.trans (b.trans I)⟩
theorem jt7(g:Nat)(u:Value):w.grownBy (w.setCell (aD g 0) u) (some g) :=
 ⟨rfl,rfl,rfl,zm,fun k _ C=>pQ _ _ _ _ (fun e=>C (by rw[e]))⟩
theorem N2.setG{w:World}{v:Value}{L:List Ba}{c:Array Value}(h:N2 P w v L)(B:Blk w g 42 c)(u:Value):N2 P (w.setCell (aD g 0) u) v L:=by
 refine⟨h.1.kept (jt7 w g u) ?_,h.2⟩;cases H:v.ownBlock with
 |none=>simp
 |some k =>
  simp;intro e;subst e;obtain⟨⟨-,r⟩,-⟩:=h;rcases r with⟨rfl,-⟩|⟨G,cap,C,rfl,-,b,-⟩
  . cases H
  . cases H;unfold Blk at B;rw[B]at b;simp at b
theorem la4(P w:World):Own 3 P w (.slice none 0 0) []:=⟨World.ownsRow_nil _ _ _ _,zm⟩
structure PGb(w wr:World)(r g:Nat)(ov:Value)(P:LI):Prop where
 hO:Own 3 w wr ov P
 hR:Blk wr r 42 #[.slice none 0 0]
 hG:Blk wr g 42 #[ov]
 hE:Ext w wr
theorem PGb.ext{w:World}{v:Value}{P:LI}(h:PGb w wr r g v P)(E:Ext wr W):PGb w W r g v P:=⟨h.hO.ext E,h.hR.ext E,h.hG.ext E,h.hE.trans E⟩
theorem PGb.app{w r:World}{R:Nat}{v W:Value}{C P:LI}(h:PGb w wr R g v C)(O:Own 3 w r W P)(G:wr.grownBy r v.ownBlock)(u:R≠g)(H:w.heap.size<=g):Blk r g 42 #[v]/\PGb w (r.setCell (aD g 0) W) R g W P:=by
 have Z:=h.hG.grown G (fun k V e=>h.hO.ne_blk h.hG (by decide) (by rw[V,e]));have x:=h.hR.grown G (fun k V e=>h.hO.ne_blk h.hR (by decide) (by rw[V,e]));exact⟨Z,O.setCell_ne (p:=(aD g 0)) (O.ne_blk Z (by decide)) _,x.other (p:=(aD g 0)) u _,Z.set 0 _,(h.hE.grown G (fun k V=>(h.hO.blk k V).1)).setCell (p:=(aD g 0)) H _⟩
theorem PGb.fin{w:World}{v:Value}{P:LI}(h:PGb w wr r g v P)(H:w.heap.size<=r)(u:Value):(wr.setCell (aD r 0) u).cell? (aD r 0)=some u/\Ext w (wr.setCell (aD r 0) u)/\Own 3 w (wr.setCell (aD r 0) u) v P :=
 ⟨(h.hR.set 0 u).cell (i:=0) rfl,h.hE.setCell (p:=(aD r 0)) H _,h.hO.setCell_ne (p:=(aD r 0)) (h.hO.ne_blk h.hR (by decide)) _⟩
theorem j10:∃W,Hid (W=(w.alloc (.cells #[.slice none 0 0] 42)).alloc (.cells #[.slice none 0 0] 42))/\PGb w W w.heap.size (w.heap.size+1) (.slice none 0 0) []:=by
 have z:=(er w).alloc (.cells #[.slice none 0 0] 42);have I:=z.alloc (.cells #[.slice none 0 0] 42);refine⟨_,zh rfl,la4 _ _,(oq w _ _).alloc _,?_,I⟩;have h:=oq (w.alloc (.cells #[.slice none 0 0] 42)) 42 #[.slice none 0 0];have e:(w.alloc (.cells #[.slice none 0 0] 42)).heap.size=w.heap.size+1:=zm;rw[e]at h;exact h
theorem I3(S:s.size<=100000):
 Calls Tryz.prog 27 #[.string s] w fun e w'=>∃v,e=.returned (.tuple #[.agg #[v],.bool (pgB s)])/\c8 w' v (pgV s)/\Ext w w':=by
 obtain⟨wa,D,R⟩:=j10 w;have hJ:w.heap.size≠w.heap.size+1:=om;have p:=R.hG.cell (i:=0) (v:=.slice none 0 0) rfl;have f1:=R.hG.free 0;have O:=R.hR.cell (i:=0) (v:=.slice none 0 0) rfl;have fr:=R.hR.free 0;by_cases N:s=b66
 . have Hv:=zh (j09 N);have T:=bn6 s b66 (decide_eq_true N);change (s.toList == [49])=true at T;have hQ:s.toList.isEmpty=false:=b65 (by rw[N];decide);have F:=I6 _ _ wa (R.hO.ints);have hz:fgF []=b66:=(by decide);rw[hz]at F;have hc:=(b05 (x:=b66) (y:=s)).trans (decide_eq_true N.symm);clear N hz;rw[D.o]at p f1 O fr;go_in;go_wp2_with(go_at_call 71;rw[<-D.o];refine cm F fun E I=>?_;have H:=R.ext I;have z2:=H.hG.cell (i:=0) (v:=.slice none 0 0) rfl;have za:=H.hR.cell (i:=0) (v:=.slice none 0 0) rfl;have fr2:=H.hR.free 0;have hF:=H.fin (oc _) (.slice none 0 0);have q:=hF.1);exact bodyPost_ret (v:=.tuple #[.agg #[.slice none 0 0],.bool true]) (by simp[results,Tryz.results27,go_sem,q]) rfl ⟨_,by rw[Hv.o.1],by rw[Hv.o.2];exact c8.nil _,hF.2.1⟩
 have T:=bn6 s b66 (decide_eq_false N);change (s.toList == [49])=false at T;obtain⟨hg,hh,hm⟩:=K6 120 s;have Hb:=zh (fun h=>do0 (s:=s) h);have Ho:=zh (fun h=>d55 (s:=s) N h);have Hs:=zh (fun r h=>j11 (s:=s) N r h);have hcut:=br7 s 120 wa S;clear N;rw[D.o]at p f1 O fr;go_in;go_wp2_with(go_at_call 13;rw[<-D.o];refine hcut.mono ?_;rintro e G⟨v1,rfl,l,z⟩;obtain⟨g,c,rfl,-,he⟩:=l.indexS om);have hr:=R.ext z;have Hr:=zh hg;obtain⟨L,hl⟩:=nq (p7 120 s);rw[<-hl]at hh hm l he Ho Hs Hr|-;obtain⟨M,Y⟩:=nq (L.length);rw[<-Y]at hh hm l he|-;have B:=zh Y;clear hcut hg Y hl R z p f1 O fr;go_loopw [15] (fun b wr=>∃(k:Nat) (A:Option Addr) (C n:Nat),k<=M/\b=vi k/\n=(pIs (L.take k)).length/\PGb w wr w.heap.size (w.heap.size+1) (.slice A n C) (pIs (L.take k))/\N2 wa wr (.slice (some (aD g 0)) M c) L) (fun b _=>M-(intOf b).toNat);exact⟨0,none,0,0,om,rfl,rfl,hr,l⟩;case round =>
  clear hr l;obtain⟨k,A,C,n,V,rfl,ht,R,l⟩:=hrel;have Ha:=zh ht;clear ht;have p:=R.hG.cell (i:=0) (v:=.slice A n C) rfl;by_cases U:k<M
  . obtain⟨aa,c',hD,-,hp⟩:=l.strs;obtain⟨g',e1,hf⟩:=hp k (by rw[<-B.o];exact U);injection hD with q1 q2 q3;rw[e1]at q1;simp only[Option.some.injEq,Addr.mk.injEq,and_true]at q1;rw[<-q1]at hf;clear hp e1 q1 q2 q3;have hi:(m8 L k).size<=100000:=(by have:=Hr.o _ (J8 (L:=L) (i:=k) (by rw[<-B.o];exact U));omega);have P:=fun W=>bh0 (m8 L k) W hi;have t:=zh (cy6 L k (by rw[<-B.o];exact U));obtain⟨x,K⟩:=nq (m8 L k);rw[<-K]at hf P t;clear K hi;obtain⟨y,hy⟩:=nq ((pI x).1);obtain⟨yb,hv⟩:=nq ((pI x).2);rw[<-hy]at P t;rw[<-hv]at P;clear hy hv;have hj:(pIs (L.take k)).length<17592186044416:=(by unfold pIs;rw[oG,ol];omega);obtain⟨PP,hP⟩:=nq (pIs (L.take k));rw[<-hP]at hj R Ha t;clear hP;go_wp2_with(first|(go_at_call 62;refine cm (P _) fun E I=>?_;have H:=R.ext I;have hA:=l.ext I;have z2:=H.hG.cell (i:=0) (v:=.slice A n C) rfl)|(at_builtin;refine b33 slI rfl _ _ rfl w _ _ _ _ H.hO H.hE hj rfl rfl ?_;intro v3 w3 ha ho hN;have hC:=hA.grownI H.hO ho;obtain⟨X,J⟩:=nq (PP++[y]);rw[<-J]at ha;have HX:=zh J;clear J;obtain⟨a3,c3,rfl,-⟩:=ha.shape;obtain⟨hb,hB⟩:=H.app ha ho hJ om;have z3:=hb.cell (i:=0) (v:=.slice A n C) rfl;have f3:=hb.free 0;have hK:=hC.setG hb (.slice a3 X.length c3)));go_roundw;exact⟨k+1,a3,c3,_,om,zg,by rw[t.o,<-HX.o],by rw[t.o,<-HX.o];exact hB,hK⟩;exact zm1
  . have hw:k=M:=om;subst hw;have Ht:Hid (pIs (L.take k)=pIs L):=zh (by rw[B.o,oz]);have d:PGb w wr w.heap.size (w.heap.size+1) (.slice A n C) (pIs L):=(by rw[<-Ht.o];exact R);have O:=d.hR.cell (i:=0) (v:=.slice none 0 0) rfl;have fr:=d.hR.free 0;have F:=I6 _ _ _ (d.hO.ints);obtain⟨u,hu⟩:=nq (fgF (pIs L));rw[<-hu]at F Ho Hs;have hc:=b05 (x:=u) (y:=s);have f:=d.fin (oc _) (.slice none 0 0);have q:=f.1;clear R hu;by_cases m:s=mtB
    . have Z:=zh (Hb.o m);have hH:s.toList.isEmpty=true:=(by rw[m,pi];rfl);clear m;go_wp2_with fail;exact bodyPost_ret (v:=.tuple #[.agg #[.slice none 0 0],.bool false]) (by simp[results,Tryz.results27,go_sem,q]) rfl ⟨_,by rw[Z.o.1],by rw[Z.o.2];exact c8.nil _,f.2.1⟩
    . have hH:=b65 m;by_cases j:u=s
      . rw[decide_eq_true j]at hc;have Z:=zh (Hs.o m j);clear j m q f;go_wp2_with(go_at_call 71;refine cm F fun E I=>?_;have H:=d.ext I;have z2:=H.hG.cell (i:=0) (v:=.slice A n C) rfl;have za:=H.hR.cell (i:=0) (v:=.slice none 0 0) rfl;have fr2:=H.hR.free 0;have hF:=H.fin (oc _) (.slice A n C);have q:=hF.1);exact bodyPost_ret (v:=.tuple #[.agg #[.slice A n C],.bool true]) (by simp[results,Tryz.results27,go_sem,q]) rfl ⟨_,by rw[Z.o.1],by rw[Z.o.2];exact hF.2.2.ints,hF.2.1⟩
      . rw[decide_eq_false j]at hc;have Z:=zh (Ho.o j);clear j m q f;go_wp2_with(go_at_call 71;refine cm F fun E I=>?_;have H:=d.ext I;have za:=H.hR.cell (i:=0) (v:=.slice none 0 0) rfl;have fr2:=H.hR.free 0;have hF:=H.fin (oc _) (.slice none 0 0);have q:=hF.1);exact bodyPost_ret (v:=.tuple #[.agg #[.slice none 0 0],.bool false]) (by simp[results,Tryz.results27,go_sem,q]) rfl ⟨_,by rw[Z.o.1],by rw[Z.o.2];exact c8.nil _,hF.2.1⟩
theorem la1(s:Ba):N2 w (w.alloc (.cells #[.string s] 9)) (.slice (some (aD w.heap.size 0)) 1 1) [s]:=by
 have:=qk (base:=w.heap.size) (e:=9) (size:=1) w #[.string s] 1 (oc _) (by unfold maxLen;omega) zm;exact⟨by simpa using this,zm⟩
section
variable {ops:Array Oper} {rest:List Oper} {o:Oper} {a:Act} {Q:Exit->Act->World->Prop}
theorem jb7(H:o.guard=none)(s x:Operand)(p:o.op=Op.call { callee:=Callee.builtin Builtin.append,args:=#[s,x],argTypes:=#[29,29] })
 (P W:World) (v u:Value) (l m:List Ba) (O:N2 P W v l) (M:b04 W u m) (E:Ext P W) (Y:0<m.length) (N:l.length+m.length<1000000) (S:a.eval s=v) (K:a.eval x=u)
 (X:∀R e,N2 P e R (l++m)->Ext P e->wpList Tryz.prog ops Q rest (a.put o.dst R) e) :
 wpList Tryz.prog ops Q (o :: rest) a W:=by
 obtain⟨i,J,z,n,b⟩:=info_parts lg1;obtain⟨A,c,rfl,L,C⟩:=M;obtain⟨g,rfl,-⟩:=C 0 Y;refine wpList_append_own _ H s x 29 p P.heap.size 9 i (.string ⟨#[]⟩) 1 16 ly8 J z n b rfl om v l.length _ S O.1 (aD g 0) m.length c (m.map Value.string) K zm ?_ ?_ (by unfold maxLen;omega) om E.size ?_;intro j u h;have f:j<m.length:=(by have:=(List.getElem?_eq_some_iff.1 h).1;simpa using this);obtain⟨B,G,T⟩:=C j f;simp only[Option.some.injEq,Addr.mk.injEq,and_true]at G;subst G;rw[pe,oM,T,<-h];simp[m8,List.getD,f];intro u h;obtain⟨y,_,rfl⟩:=pp.1 h;rfl;intro R e U G _;exact X R e ⟨by simpa using U,by simp;omega⟩ (E.grown G fun k V=>(O.blk k V).1)
end
theorem zz127{P:Prop}(h:P:=by go_in;go_wp2_with fail;go_ret;exact⟨rfl,er _⟩):P:=h
theorem l73(b:Bool)(v:Value)(m:List Ba)(w:World)(h:b04 w v m)(S:s.size<=5000)(H:∀i,i<m.length->(m8 m i).size<=5000)(T:0<m.length)(N:m.length<=50):Calls Tryz.prog 82 #[.string s,.bool b,v] w (RE w (.string (if b then F4 (s :: m)else s))):=by
 cases b;exact zz127;have E:=(er w).alloc (.cells #[.string s] 9);have M:=h.ext E;have O:=la1 w s;have L:=fun V W (C:b04 W V (s :: m))=>cx6 V (s :: m) W C (fun i J=>by
  cases i with
  |zero=>exact S
  |succ i=>exact H i (by simpa using J)) zso
 have l:[s].length+m.length<1000000:=zso;obtain⟨A,c,rfl,-,-⟩:=h;clear H S;go_in;go_wp2_with(first|(at_builtin;refine jb7 rfl _ _ rfl w _ _ _ _ _ O M E T l rfl rfl ?_;intro j G U z)|(go_at_call 76;refine(L _ _ U.strs).mono ?_;rintro e n⟨rfl,rfl⟩));go_ret;exact⟨rfl,z⟩
theorem bt1(b:Bool)(s:Ba)(w:World):
 Calls Tryz.prog 107 #[.bool b,.string s] w fun e W=>e=.returned (.string (if b then s else⟨#[]⟩))/\w=W:=by
 cases b
 . go_in;go_wp2_with fail;exact zz108
 go_in;go_wp2_with fail;exact zz108
theorem b20{y:Ba}(h:x.data.toList=y.data.toList):x=y:=by
 cases x;cases y;simp only at h;congr 1;exact Array.toList_inj.1 h
theorem b98(b:Bool)(t u:Ba)(h:u=(⟨#[32]⟩:Ba)++t):(if b then F4 [X,t]else X)=X++(if b then u else(⟨#[]⟩:Ba)):=by
 subst h;apply b20;cases b<;>simp[F4,jn,m8,spB,List.getD]
theorem zz166{P:Prop}(h:P:=by apply b20;simp[F4,jn,m8,spB,List.getD]):P:=h
theorem le4(F u:Ba)(h:u=((⟨#[32]⟩:Ba)++t)++(⟨#[32]⟩:Ba)):F4 [X,t,F]=(X++u)++F:=by
 subst h;exact zz166
theorem lk9(f:Nat->Ba)(k:Nat):(jn spB f (k+1)).size<=(jn spB f k).size+1+(f k).size:=by
 show((if 0<k then jn spB f k++spB else jn spB f k)++f k).size<=_;have e:spB.size=1:=rfl;split<;>(simp only[oe];omega)
theorem o5(A:List UInt8):(⟨A.toArray⟩:Ba).size=A.length:=rfl
def K3:List Ba->Nat
 |[]=>0
 |x :: r=>x.size+1+K3 r
theorem jg4(s:List Ba):∀k,k<=s.length->(jn spB (m8 s) k).size<=K3 (s.take k)
 |0,_=>oX _
 | k+1,h=>by
  have H:=lk9 (m8 s) k
  have W:=jg4 s k om
  have e:∀(a:List Ba) (b:Ba),K3 (a++[b])=K3 a+b.size+1:=by
   intro a b;induction a with
   |nil=>show b.size+1+0=0+b.size+1;omega
   |cons x r ih=>show x.size+1+K3 (r++[b])=x.size+1+K3 r+b.size+1;omega
  have E:m8 s k=s[k]'om:=by simp[m8,List.getD,show k<s.length by omega]
  rw[pa om,e,<-E]
  omega
theorem b64(x:List Ba):(F4 x).size<=K3 x:=by
 have:=jg4 x x.length (oc _);rw[oz]at this;exact this
theorem dp1{s:List Ba}{B:Nat}(h:∀x∈s,x.size<=B):∀i,i<s.length->(m8 s i).size<=B:=fun i J=>by
 have e:m8 s i=s[i]:=by simp[m8,List.getD,J]
 rw[e];exact h _ (qh _)
theorem be1(xs:List Ba)(h:∀x∈xs,x.size<=5000)(hn:xs.length<=100:=by simp):∃X,X=F4 xs/\∀W:World,Calls Tryz.prog 76 #[.slice (some (aD W.heap.size 0)) xs.length xs.length] (W.alloc (.cells (xs.map Value.string).toArray 9)) (RE (W.alloc (.cells (xs.map Value.string).toArray 9)) (.string X)) :=
 ⟨_,rfl,fun W=>(cx6 _ _ _ (d05 W xs 9 om) (dp1 h) hn).mono fun e w' ⟨h1,h2⟩=>⟨h1,h2 ▸ er _⟩⟩
theorem N8(s:Ba)(b:Bool)(xs:List Ba)(B:Nat)(hs:s.size<=B)(h:∀x∈xs,x.size<=5000)(hB:B+K3 xs+1<=5000)(h0:0<xs.length:=by simp)(hn:xs.length<=50:=by simp):∃X,X=(if b then F4 (s :: xs)else s)/\X.size<=B+K3 xs+1/\∀W:World,Calls Tryz.prog 82 #[.string s,.bool b,.slice (some (aD W.heap.size 0)) xs.length xs.length] (W.alloc (.cells (xs.map Value.string).toArray 9)) (RE (W.alloc (.cells (xs.map Value.string).toArray 9)) (.string X)) :=
 ⟨_,rfl,by
  have:=b64 (s :: xs)
  have e:K3 (s :: xs)=s.size+1+K3 xs:=rfl
  split<;>omega,fun W=>l73 s b _ xs _ (d05 W xs 9 om) om (dp1 h) h0 hn⟩
theorem c59(b:Bool)(s:Ba)(h:s.size<=20:=by decide):∃y,Hid (y=if b then s else⟨#[]⟩)/\y.size<=20/\∀W,Calls Tryz.prog 107 #[.bool b,.string s] W fun e w'=>e=.returned (.string y)/\W=w' :=
 ⟨_,zh rfl,by split<;>first|exact h|decide,bt1 b s⟩
theorem dw8(a b:Nat):Nat.gcd b (a%b)=Nat.gcd a b:=by rw[Nat.gcd_comm b,<-Nat.gcd_rec,Nat.gcd_comm]
theorem dz0(a b:Nat):((a%b:Nat):Int)=(a:Int)%(b:Int):=pn a b
theorem zz115{P:Prop}(h:P:=by go_wp2_with fail;go_roundw;exact⟨y,x%y,Y,om,by rw[N.o,g.o],rfl,by rw[h],E⟩;(simp only[intOf];rw[<-h,oY,oY];exact m)):P:=h
theorem db7(a b:Nat)(A:a<=16777216)(C:b<=16777216)(w:World):Calls Tryz.prog 241 #[vi a,vi b] w (RE w (vi (Nat.gcd a b:Nat))):=by
 have E:=er w;go_in;go_wp2_with fail;go_loopw [0,1] (fun X v wr=>∃x y:Nat,x<=16777216/\y<=16777216/\Nat.gcd x y=Nat.gcd a b/\X=vi x/\v=vi y/\Ext w wr) (fun _ v _=>(intOf v).toNat);exact⟨a,b,A,C,rfl,rfl,rfl,E⟩
 clear E;obtain⟨x,y,K,Y,H,rfl,rfl,E⟩:=hrel;have g:=zh H;clear H;by_cases S:y=0
 . subst S;go_wp2_with fail;go_ret;exact⟨o3 (by rw[<-g.o,Nat.gcd_zero_right]),E⟩
 have n:((y:Int) != 0)=true:=zso;have e:((y:Int) == 0)=false:=zso;have p:0<(y:Int):=om;have m:=pu x (show 0<y by omega);have h:=dz0 x y;have M:(x:Int)%(y:Int)<=16777216:=(by rw[<-h];omega);have N:=zh (dw8 x y);go_wp2_with fail;refine wl E ?_;(repeat(go_big_quiet_step(first|fail)));refine zd fun W E=>?_;exact zz115
theorem c43(a b:Nat)(A:a<=16777216)(C:b<=16777216)(w:World):Calls Tryz.prog 213 #[vi a,vi b] w (RE w (vi (Nat.gcd a b:Nat))):=by
 have E:=er w;go_in;go_wp2_with fail;go_loopw [0,1] (fun X v wr=>∃x y:Nat,x<=16777216/\y<=16777216/\Nat.gcd x y=Nat.gcd a b/\X=vi x/\v=vi y/\Ext w wr) (fun _ v _=>(intOf v).toNat);exact⟨a,b,A,C,rfl,rfl,rfl,E⟩
 clear E;obtain⟨x,y,K,Y,H,rfl,rfl,E⟩:=hrel;have g:=zh H;clear H;by_cases S:y=0
 . subst S;go_wp2_with fail;go_ret;exact⟨o3 (by rw[<-g.o,Nat.gcd_zero_right]),E⟩
 have n:((y:Int) == 0)=false:=zso;have p:0<(y:Int):=om;have m:=pu x (show 0<y by omega);have h:=dz0 x y;have M:(x:Int)%(y:Int)<=16777216:=(by rw[<-h];omega);have N:=zh (dw8 x y);exact zz115
def ba1(n:Nat):Bool:=decide (2<=n/\∀d,d<n->2<=d->n%d≠0)
theorem dk0{d:Nat}(h:n%d=0)(r:2<=d)(hd:d<n):ba1 n=false :=
 decide_eq_false fun H=>H.2 d hd r h
theorem d59(h:∀d,d<n->2<=d->n%d≠0):ba1 n=decide (2<=n):=by
 unfold ba1;by_cases H:2<=n;rw[decide_eq_true H];exact decide_eq_true ⟨H,h⟩;rw[decide_eq_false H];exact decide_eq_false fun b=>H b.1
def P2(l:LI):Nat->Nat
 |0=>1
 |k+1=>P2 l k/Nat.gcd (P2 l k) (nth l k).toNat*(nth l k).toNat
def b84(l:LI):Nat:=P2 l l.length
theorem lj6{l:LI}(h:d7 l=true):∀k,k<=l.length->1<=P2 l k/\P2 l k<=24^k:=by
 intro k;induction k with
 |zero=>intro _;exact⟨oc _,oc _⟩
 |succ k ih =>
  intro V;obtain⟨U,r⟩:=ih om;have n:=G4 h (show k<l.length by omega);have H:2<=(nth l k).toNat/\(nth l k).toNat<=24:=om;show 1<=P2 l k/Nat.gcd (P2 l k) (nth l k).toNat*(nth l k).toNat/\_;have g:0<Nat.gcd (P2 l k) (nth l k).toNat:=Nat.gcd_pos_of_pos_right _ om;have G:Nat.gcd (P2 l k) (nth l k).toNat<=P2 l k:=Nat.gcd_le_left _ om;have q:0<P2 l k/Nat.gcd (P2 l k) (nth l k).toNat:=Nat.div_pos G g;have m:=po (P2 l k) (Nat.gcd (P2 l k) (nth l k).toNat);refine⟨Nat.mul_pos q om,?_⟩;rw[pU];exact pm (nle m r) H.2
theorem bj9{l:LI}(h:d7 l=true)(V:k<=l.length):1<=P2 l k/\P2 l k<=13824:=by
 obtain⟨H,r⟩:=lj6 h k V;have T:=E5 h;exact⟨H,nle r (nle (ot (by decide) (nle V T)) (by decide))⟩
theorem l97{o j:Nat}(V:0<e):j*e%o=0↔o/Nat.gcd e o ∣ j:=by
 have H:0<Nat.gcd e o:=qz _ V;rw[<-Nat.dvd_iff_mod_eq_zero];constructor;intro h;have U:Nat.Coprime (o/Nat.gcd e o) (e/Nat.gcd e o):=(Nat.coprime_div_gcd_div_gcd H).symm;refine U.dvd_of_dvd_mul_right ?_;refine Nat.dvd_of_mul_dvd_mul_right H ?_;rw[qF (Nat.gcd_dvd_right e o),Nat.mul_assoc,qF (Nat.gcd_dvd_left e o)];exact h;rintro⟨q,rfl⟩;refine⟨q*(e/Nat.gcd e o),?_⟩;have R:=qF (Nat.gcd_dvd_left e o);have E:=qF (Nat.gcd_dvd_right e o);conv=>lhs;rhs;rw[<-R]
 conv=>rhs;lhs;rw[<-E]
 simp only[qE,Nat.mul_left_comm]
theorem l98{o:Nat}:o/Nat.gcd e o*e=e/Nat.gcd e o*o:=by
 have R:=qF (Nat.gcd_dvd_left e o);have E:=qF (Nat.gcd_dvd_right e o);conv=>lhs;rhs;rw[<-R]
 conv=>rhs;rhs;rw[<-E]
 simp only[qE,Nat.mul_left_comm]
theorem ck8(h:c8 w v l)(R:Hid (d7 l=true)):Calls Tryz.prog 142 #[.agg #[v]] w (RE w (vi (ord l:Int))):=by
 rw[<-bi6 R.o];exact ba4 v l w h
theorem zz20{P:Prop}(h:P:=by go_wp2_with fail;go_ret;exact⟨j1 (by (try rw[x.o]);rw[p.o];first|exact decide_eq_decide.2 om|exact(decide_eq_true n).symm|exact(decide_eq_false n).symm),F.trans E⟩):P:=h
theorem zz113{P:Prop}(h:P:=by have f:((N:Int)%(d:Int) == 0)=true:=(by rw[<-c,S];rfl);clear c;go_wp2_with fail;go_ret;exact⟨j1 (by (try rw[x.o]);exact(dk0 S hd U).symm),F.trans E⟩):P:=h
theorem cu6(h:c8 w v l)(R:Hid (d7 l=true)):Calls Tryz.prog 157 #[.agg #[v]] w (RE w (.bool (ba1 (ord l)))):=by
 obtain⟨B,Z,F,C,H,E,s⟩:=m04 42 h;clear h;have b:=C B E;have O:=l8 R.o;go_in;go_wp2_with fail;rw[<-Z.o];go_wp2_with(first|(go_at_call 153;refine cx (p9 _ _ _ (H _ E) (R)) E fun e E=>?_));clear C H b;obtain⟨N,W⟩:∃N,ord l=N:=⟨_,rfl⟩;rw[W]at O|-;have x:=zh W;clear W;go_loop [4] (fun i=>∃d:Nat,2<=d/\i=vi d/\∀m,m<d->m<N->2<=m->N%m≠0) (fun i=>N-(intOf i).toNat);exact⟨2,om,rfl,fun m V r T=>om⟩
 obtain⟨d,hd,rfl,M⟩:=hrel;have G:=zh M;clear M;by_cases U:d<N
 . have c:=dz0 N d;have g:=pu N (show 0<d by omega);have X:((d:Int) == 0)=false:=zso;have P:0<(d:Int):=om;have t:(d:Int)<(N:Int):=om;by_cases S:N%d=0;exact zz113;have f:((N:Int)%(d:Int) == 0)=false:=(by rw[<-c,beq_eq_false_iff_ne];omega);clear c;go_wp2_with fail;go_round;case rel=>exact⟨d+1,om,zg,fun m V r T=>by
    rcases qq m d with q|q
    exact G.o m q r T
    obtain rfl:m=d:=by omega
    exact S⟩
   case measure=>exact zm1
 have p:=zh (d59 fun m V r=>G.o m om V r);by_cases n:2<=N;have I:(2:Int)<=(N:Int):=om;exact zz20;have I:¬(2:Int)<=(N:Int):=om;exact zz20
theorem cq5(h:c8 w v l)(R:Hid (d7 l=true)):Calls Tryz.prog 108 #[.agg #[v]] w (RE w (.bool (ba1 (ord l)))):=by
 obtain⟨B,Z,F,C,H,E,s⟩:=m04 42 h;clear h;have b:=C B E;have O:=l8 R.o;go_in;go_wp2_with fail;rw[<-Z.o];go_wp2_with(first|(go_at_call 142;refine cx (ck8 _ _ _ (H _ E) (R)) E fun e E=>?_));clear C H b;obtain⟨N,W⟩:∃N,ord l=N:=⟨_,rfl⟩;rw[W]at O|-;have x:=zh W;clear W;go_loop [4] (fun i=>∃d:Nat,2<=d/\i=vi d/\∀m,m<d->m<N->2<=m->N%m≠0) (fun i=>N-(intOf i).toNat);exact⟨2,om,rfl,fun m V r T=>om⟩
 obtain⟨d,hd,rfl,M⟩:=hrel;have G:=zh M;clear M;by_cases U:d<N
 . have c:=dz0 N d;have g:=pu N (show 0<d by omega);have X:((d:Int) == 0)=false:=zso;have P:0<(d:Int):=om;have t:(d:Int)<(N:Int):=om;by_cases S:N%d=0;exact zz113;have f:((N:Int)%(d:Int) == 0)=false:=(by rw[<-c,beq_eq_false_iff_ne];omega);clear c;go_wp2_with fail;go_round;case rel=>exact⟨d+1,om,zg,fun m V r T=>by
    rcases qq m d with q|q
    exact G.o m q r T
    obtain rfl:m=d:=by omega
    exact S⟩
   case measure=>exact zm1
 have p:=zh (d59 fun m V r=>G.o m om V r);by_cases n:2<=N;have I:(2:Int)<=(N:Int):=om;exact zz20;have I:¬(2:Int)<=(N:Int):=om;exact zz20
theorem d89(h:c8 w v l)(R:Hid (d7 l=true)):Calls Tryz.prog 154 #[.agg #[v]] w (RE w (vi (b84 l:Nat))):=by
 have p:=h.op;have F:=(er w).alloc (.cells #[v] 42);have E:=er (w.alloc (.cells #[v] 42));have C:=d8 w v 42;have H:∀W,Ext (w.alloc (.cells #[v] 42)) W->c8 W v l:=fun W D=>h.ext (F.trans D);clear h;obtain⟨A,c,u,rfl,y,r,L⟩:=p;have x:=j2 (c:=c) elI szI r;clear r;have Y:=R.o;have j:=E5 Y;go_in;go_wp2_with(first|(go_at_call 92;refine cx (o9 _ _ _ (H _ E)) E fun b E=>?_));clear Y;go_loopw [3,12] (fun n i wr=>∃k:Nat,k<=l.length/\i=vi k/\n=vi (P2 l k:Nat)/\Ext (w.alloc (.cells #[.slice A l.length c] 42)) wr) (fun _ i _=>l.length-(intOf i).toNat);exact⟨0,om,rfl,rfl,E⟩
 clear E;obtain⟨k,V,rfl,rfl,E⟩:=hrel;by_cases U:k<l.length
 . have Z:=L k _ U (F.trans E);have m:=G4 R.o U;have N:Hid (P2 l (k+1)=P2 l k/Nat.gcd (P2 l k) (nth l k).toNat*(nth l k).toNat):=zh rfl;have s:=bj9 R.o (show k+1<=l.length by omega);obtain⟨T,P⟩:=bj9 R.o V;obtain⟨o,O⟩:∃o:Nat,nth l k=(o:Int):=⟨(nth l k).toNat,om⟩;rw[O]at Z m;have S:Hid (P2 l (k+1)=P2 l k/Nat.gcd (P2 l k) o*o):=zh (by rw[N.o,O,oY]);rw[S.o]at s;clear N O;have g:0<Nat.gcd (P2 l k) o:=qz _ om;obtain⟨e,X⟩:∃e,P2 l k=e:=⟨_,rfl⟩;rw[X]at T P s g S|-;have d:((e/Nat.gcd e o:Nat):Int)=(e:Int)/(Nat.gcd e o:Int):=qa _ _;have B:=zh d;have q:=po e (Nat.gcd e o);have J:0<=(e:Int)/(Nat.gcd e o:Int)/\(e:Int)/(Nat.gcd e o:Int)<=13824:=⟨by rw[<-d];exact pK _,by rw[<-d];exact Int.ofNat_le.2 (nle q P)⟩;have f:((Nat.gcd e o:Int) == 0)=false:=zso;have G:0<(Nat.gcd e o:Int):=om;have z : -1000000<=(e:Int)/(Nat.gcd e o:Int)*(o:Int)/\(e:Int)/(Nat.gcd e o:Int)*(o:Int)<=1000000:=⟨by rw[<-d,<-oO];exact Int.le_trans (by decide) (pK _),by rw[<-d,<-oO];exact Int.ofNat_le.2 (nle s.2 (by decide))⟩;have M:Hid ((e:Int)/(Nat.gcd e o:Int)*(o:Int)=((P2 l (k+1):Nat):Int)):=zh (by rw[S.o,oO,d]);clear d s X;go_wp2_with(go_at_call 241;refine cm (db7 _ _ om om _) fun t I=>?_);go_roundw;exact⟨k+1,om,zg,by rw[M.o],E.trans I⟩;exact zm1
 have K:k=l.length:=om;subst K;exact zz41
theorem zz98{P:Prop}(h:P:=by go_wp2_with fail;go_ret;exact⟨rfl,F.trans z⟩):P:=h
theorem d65(h:c8 w v l)(R:Hid (d7 l=true)):Calls Tryz.prog 104 #[.agg #[v]] w (RE w (vi (b84 l:Nat))):=by
 have P:=h.op;have F:=(er w).alloc (.cells #[v] 42);have E:=er (w.alloc (.cells #[v] 42));have C:=d8 w v 42;have H:∀W,Ext (w.alloc (.cells #[v] 42)) W->c8 W v l:=fun W D=>h.ext (F.trans D);clear h;obtain⟨ao,c,ar,rfl,hj,d,r⟩:=P;have hx:=j2 (c:=c) elI szI d;clear d;have Y:=R.o;have hr:=E5 Y;go_in;go_wp2_with(go_at_call 52;refine cm (C4 _ _ _ (H _ E)) fun G z=>?_;have hi:=C _ (E.trans z));clear Y;go_loop [3,4] (fun n i=>∃k:Nat,k<=l.length/\i=vi k/\n=vi (P2 l k:Nat)) (fun _ i=>l.length-(intOf i).toNat);exact⟨0,om,rfl,rfl⟩
 obtain⟨k,V,rfl,rfl⟩:=hrel;by_cases U:k<l.length
 . have A:=r k _ U (F.trans z);have p:=G4 R.o U;have N:Hid (P2 l (k+1)=P2 l k/Nat.gcd (P2 l k) (nth l k).toNat*(nth l k).toNat):=zh rfl;have S:=bj9 R.o (show k+1<=l.length by omega);obtain⟨ha,B⟩:=bj9 R.o V;obtain⟨o,O⟩:∃o:Nat,nth l k=(o:Int):=⟨(nth l k).toNat,om⟩;rw[O]at A p;have s:Hid (P2 l (k+1)=P2 l k/Nat.gcd (P2 l k) o*o):=zh (by rw[N.o,O,oY]);rw[s.o]at S;clear N O;obtain⟨e,b⟩:∃e,P2 l k=e:=⟨_,rfl⟩;rw[b]at ha B S s|-;have m:Hid (∀j,j*e%o=0↔o/Nat.gcd e o ∣ j):=zh fun j=>l97 om;have hf:0<o/Nat.gcd e o:=Nat.div_pos (Nat.gcd_le_right _ om) (qz _ om);have X:Hid (o/Nat.gcd e o*e=P2 l (k+1)):=zh (by rw[s.o];exact l98);have L:o/Nat.gcd e o*e<=13824:=(by rw[X.o,s.o];exact S.2);clear S b;obtain⟨J,f⟩:∃J,o/Nat.gcd e o=J:=⟨_,rfl⟩;rw[f]at hf X L m;clear f s;have hm:((o:Int) == 0)=false:=zso;have hs:0<(o:Int):=om;go_wp2_with fail;go_loop [5] (fun x=>∃j Z:Nat,1<=j/\j<=J/\Z=j*e/\Z<=13824/\x=vi Z) (fun x=>13824-(intOf x).toNat);exact⟨1,e,om,om,om,om,rfl⟩;case round =>
    obtain⟨j,Z,hq,hp,K,hl,rfl⟩:=hrel;have g:=zh K;have y:=dz0 Z o;by_cases T:Z%o=0
    . have t:j=J:=by
       have:=Nat.le_of_dvd om ((m.o j).1 (by rw[<-K];exact T));omega
      have hI:((Z:Int)%(o:Int) == 0)=true:=by rw[<-y,T];rfl
      clear y K
      go_wp2_with fail
      go_round
      case rel=>exact⟨k+1,om,zg,by rw[<-X.o,g.o,t]⟩
      case measure=>exact zm1
    . have t:j≠J:=fun q=>T (by rw[K];exact(m.o j).2 (by rw[q];exact Nat.dvd_refl _));have hI:((Z:Int)%(o:Int) == 0)=false:=(by rw[<-y,beq_eq_false_iff_ne];omega);have I:Z+e=(j+1)*e:=(by rw[K,Nat.succ_mul]);have M:(j+1)*e<=J*e:=qr e om;have hc:Z+e<=13824:=(by rw[I];exact nle M L);have Ha:=zh I;clear y K I M;go_wp2_with fail;go_round;exact⟨j+1,Z+e,om,om,Ha.o,hc,zg⟩;exact zm1
 have u:k=l.length:=om;subst u;exact zz98
theorem jq6(M:LN)(i x:Nat):(b9 M).set i (x:Int)=b9 (M.set i x):=by unfold b9;rw[List.map_set]
structure Dv(w0:World)(ao:Option Addr)(n c:Nat)(M:LN)(W:World):Prop where
 own:Own 3 w0 W (.slice ao n c) (b9 M)
 len:M.length=n
 ext:Ext w0 W
theorem Dv.at{P W:World}{A:Option Addr}{n c:Nat}{M:LN}(h:Dv P A n c M W){i:Nat}(J:i<n):∃g,A=some (aD g 0):=by
 obtain⟨O,C,v,-,-,S⟩:=h.own.shape;obtain⟨g,H,-,-⟩:=S i (by rw[d9,h.len];exact J);simp only[Value.slice.injEq]at v;exact⟨g,v.1.trans H⟩
theorem Dv.cell(h:Dv P (some (aD g 0)) n c M W)(J:i<n):W.cell? (aD g i)=some (vi (d5 M i))/\W.frozen? (aD g i)=false/\P.heap.size<=g:=by
 obtain⟨A,w,v,-,C,S⟩:=h.own.shape;obtain⟨G,H,R,f⟩:=S i (by rw[d9,h.len];exact J);simp only[Value.slice.injEq]at v;have e:=v.1.trans H;simp only[Option.some.injEq,Addr.mk.injEq,and_true]at e;obtain rfl:=e;obtain⟨V,E,r,-⟩:=C _ H;simp only[Addr.mk.injEq,and_true]at E;subst E;exact⟨by rw[R,P7],f,r⟩
theorem Dv.set(h:Dv P (some (aD g 0)) n c M W)(H:P.heap.size<=g)(i x:Nat):Dv P (some (aD g 0)) n c (M.set i x) (W.setCell (aD g i) (vi (x:Int))):=by
 obtain⟨U,rfl,T⟩:=h;refine⟨?_,zm,T.setCell H _⟩;have e:(b9 M).length=M.length:=d9 M;have:=Own.stored (c:=c) (by rw[e];exact U) i (x:Int);rw[e,jq6]at this;exact this
theorem Dv.ext2{v:World}(h:Dv P A n c M W)(V:Ext W v):Dv P A n c M v:=⟨h.own.ext V,h.len,h.ext.trans V⟩
theorem Dv.drew(h:Dv P A n c M W):Dv P A n c M W.drew:=⟨h.own.drew,h.len,h.ext.drew⟩
theorem bd6(g n c:Nat):∀(i:Nat) W,i<n->(Instr.indexAt 40 (.slice (some (aD g 0)) n c) (vi (i:Int))).run Tryz.prog W=.ok (.pointer (some (aD g i))) W:=by
 intro i W J;rw[run_indexAt_slice (h:=elI),if_pos om,szI];simp[Result.andThen,pe]
theorem zz43{P:Prop}(h:P:=by refine hxn 14 ?_;refine hxn 16 ?_;refine hxt 17 (h:=fun x K=>?_);go_simp;refine hxo K (by trivial) (fun d=>?_);clear K x;refine hxn 18 ?_;refine hxt 19 (h:=fun x K=>?_);go_simp;refine hxo K (by trivial) (fun d=>?_);clear K x;refine wpAnyH_done (by kernel_rfl) ?_ _;go_wp2_with fail;go_roundw;exact⟨m+1,k+1,by have:=X.o;omega,om,zg,hh.drew⟩;exact zm1):P:=h
theorem cd5(h:c8 w v l)(R:Hid (d7 l=true)):Calls Tryz.prog 155 #[.agg #[v]] w (RE w (vi (W3 dvS (S9 l):Nat))):=by
 obtain⟨B,Z,F,C,H,E,Hz⟩:=m04 42 h;clear h;have hC:=C B E;obtain⟨r,T⟩:∃M,S9 l=M:=⟨_,rfl⟩;have Hl:Hid (l=b9 r):=zh (by rw[<-T];exact(dj1 R.o).symm);have Hk:Hid (bm2 dvS r=true):=zh (by rw[<-T];exact lj1 R.o);have hX:r.length<=3:=by rw[<-T];simpa[S9]using E5 R.o
 rw[T];clear T;go_in;go_wp2_with fail;rw[<-Z.o];go_wp2_with(first|(go_at_call 92;refine cm (o9 _ _ _ (H _ E)) fun G z=>?_;have hH:=C _ (E.trans z);have ho:=H _ (E.trans z);have Y:=R.o)|(go_at_call 170;refine(E3 _ _ _ ho).mono ?_;rintro e w2⟨v2,rfl,O,I⟩;obtain⟨A,c,rfl,-⟩:=O.shape));have hu:l.length=r.length:=by rw[Hl.o,d9]
 have hx:Dv G A r.length c r w2:=⟨by rw[<-hu,<-Hl.o];exact O,rfl,I⟩;rw[hu];have hN:=F.trans (E.trans z);clear O hH ho C H hC Y;go_wp2_with fail;clear E z I;go_loopw [18] (fun iv wr=>∃i:Nat,i<=r.length/\iv=vi i/\Dv G A r.length c (T9 dvS r.length r i) wr) (fun iv _=>r.length-(intOf iv).toNat);exact⟨0,om,rfl,hx⟩
 clear hx;rename World=>wo;obtain⟨i,hi,rfl,D⟩:=hrel;by_cases U:i<r.length
 . have hI:(i:Int)<(r.length:Int):=om;have Ha:=zh (fun m (hm:m<r.length-i)=>du0 Hk.o U hm);go_wp2_with fail;go_loopw [5] (fun kv wr=>∃m k:Nat,k=i+1+m/\k<=r.length/\kv=vi k/\Dv G A r.length c (bh7 dvS i (T9 dvS r.length r i) m) wr) (fun kv _=>r.length-(intOf kv).toNat);exact⟨0,i+1,rfl,om,zg,D⟩;case round =>
    clear D;rename World=>wr;obtain⟨m,k,hv,V,rfl,L⟩:=hrel;have X:=zh hv;have ad:i<k:=om;clear hv;by_cases s:k<r.length
    . have hT:(k:Int)<(r.length:Int):=om;obtain⟨u,J⟩:=Ha.o m (by have:=X.o;omega);have n:Hid (bh7 dvS i (T9 dvS r.length r i) (m+1)=dvS (bh7 dvS i (T9 dvS r.length r i) m) i k):=zh (by rw[X.o];rfl);obtain⟨M,f⟩:=nq (bh7 dvS i (T9 dvS r.length r i) m);rw[<-f]at L u J n;clear f;have hL:=J i U;have hr:=J k s;obtain⟨g,rfl⟩:=L.at U;have hJ:=bd6 g r.length c;have hc:=L.drew;obtain⟨ci,-,ht⟩:=hc.cell U;have ck:=(hc.cell s).1;replace n:=zh (n.o.trans (show dvS M i k=(M.set i (d5 M i/Nat.gcd (d5 M i) (d5 M k)*d5 M k)).set k (Nat.gcd (d5 M i) (d5 M k))from rfl));obtain⟨a,ha⟩:=nq (d5 M i);obtain⟨b,C⟩:=nq (d5 M k);rw[<-ha]at ci hL n;rw[<-C]at ck hr n;have HA:=zh ha;have HB:=zh C;clear ha C;have hP:0<Nat.gcd a b:=qz _ om;have hV:Nat.gcd a b<=a:=Nat.gcd_le_left _ om;clear J;have cG:=db7 a b om om;obtain⟨t,hG⟩:=nq (Nat.gcd a b);rw[<-hG]at hP hV n;rw[<-hG]at cG;clear hG;go_wp2_with fail;refine wp_region_held_drew (S:=(fun W=>W.cell? (aD g i)=some (vi (a:Int))/\W.cell? (aD g k)=some (vi (b:Int)))) (by kernel_rfl) (by exact⟨ci,ck⟩) (fun d=>?_);refine hxn 0 ?_;refine hxn 1 ?_;refine hxn 2 ?_;refine hxn 3 ?_;refine hxn 4 ?_;refine hxn 5 ?_;refine hxn 6 ?_;refine hxn 7 ?_;refine hxt 8 (h:=fun x K=>?_);go_simp;(go_at_call 241;(with_reducible refine od (cG _) ?_);rintro e w3⟨rfl,hB⟩);have N:=hc.ext2 hB;have di:=(N.cell U).1;have dk:=(N.cell s).1;rw[<-HA.o]at di;rw[<-HB.o]at dk;refine hxo K (by exact⟨di,dk⟩) (fun d=>?_);clear K x;refine hxn 9 ?_;refine wpAnyH_done (by kernel_rfl) ?_ _;go_wp2_with fail;have q:(a:Int)/(t:Int)*(b:Int)=((a/t*b:Nat):Int):=(by rw[oO,qa]);have hq:a/t<=24:=nle (po _ _) om;have hp:a/t*b<=576:=pm hq hr.2;have d2:((a/t:Nat):Int)=(a:Int)/(t:Int):=qa _ _;have ab:0<=(a:Int)/(t:Int)/\(a:Int)/(t:Int)<=24:=⟨by rw[<-d2];exact pK _,by rw[<-d2];exact Int.ofNat_le.2 hq⟩;have ac:0<=(a:Int)/(t:Int)*(b:Int)/\(a:Int)/(t:Int)*(b:Int)<=576:=⟨by rw[q];exact pK _,by rw[q];exact Int.ofNat_le.2 hp⟩;have aa:((t:Int) == 0)=false:=zso;have hY:0<(t:Int):=om;have he:=N.drew;have hU:Dv G (some (aD g 0)) r.length c (M.set i (a/t*b)) (w3.setCell (aD g i) (vi ((a:Int)/(t:Int)*(b:Int)))):=(by rw[q];exact N.set ht i _);have hh:=hU.set ht k t;rw[<-n.o]at hh;have cs:=(hU.cell s).1;have fi:=(he.cell U).2.1;have ei:=(he.cell U).1;have ek:=(he.cell s).1;have fk:=(N.cell s).2.1;have hW:IntKind.i64.wrap ((a:Int)/(t:Int))=(a:Int)/(t:Int):=oD _ om;have hZ:IntKind.i64.wrap ((a:Int)/(t:Int)*(b:Int))=(a:Int)/(t:Int)*(b:Int):=oD _ om;rw[<-HA.o]at ei;rw[<-HB.o]at ek;clear q d2 hq hp ci ck di dk;go_wp2_with fail;refine wp_region_held_drew (S:=(fun _=>True)) (by kernel_rfl) (by trivial) (fun d=>?_);refine hxn 0 ?_;refine hxn 1 ?_;refine hxn 2 ?_;refine hxn 3 ?_;refine hxn 4 ?_;refine hxn 5 ?_;refine hxn 6 ?_;refine hxn 8 ?_;refine hxn 10 ?_;refine hxn 11 ?_;refine hxn 12 ?_;refine hxn 15 ?_;refine hxr 7 13 (fun x K=>?_) (fun x K=>?_)
      . skip;go_simp;refine hxo K (by trivial) (fun d=>?_);clear K x;refine hxn 9 ?_;refine hxt 13 (h:=fun x K=>?_);go_simp;refine hxo K (by trivial) (fun d=>?_);clear K x;exact zz43
      . skip;go_simp;refine hxo K (by trivial) (fun d=>?_);clear K x;refine hxt 7 (h:=fun x K=>?_);go_simp;refine hxo K (by trivial) (fun d=>?_);clear K x;refine hxn 9 ?_;exact zz43
    . have hT:¬(k:Int)<(r.length:Int):=om;have Hm:Hid (m=r.length-(i+1)):=zh (by have:=X.o;omega);rw[Hm.o]at L;go_wp2_with fail;go_roundw;exact⟨i+1,om,zg,L⟩;exact zm1
 have hn:i=r.length:=om;have hI:¬(i:Int)<(r.length:Int):=om;rw[hn]at D hI|-;clear hn hi;obtain⟨u,J⟩:=cf6 Hk.o;obtain⟨M,f⟩:=nq (T9 dvS r.length r r.length);have Hd:Hid (W3 dvS r=b36 M r.length):=zh (by rw[f];rfl);rw[<-f]at D u J;clear f;have Hc:=zh (c78 M (by rw[u];exact J));have Hb:=zh J;clear J;go_wp2_with fail;go_loop [7,59] (fun sv jv=>∃j:Nat,j<=r.length/\jv=vi j/\sv=vi (b36 M j:Nat)) (fun _ jv=>r.length-(intOf jv).toNat);exact⟨0,om,rfl,rfl⟩;case round =>
  obtain⟨j,hj,rfl,rfl⟩:=hrel;by_cases p:j<r.length
  . have hz:(j:Int)<(r.length:Int):=om;obtain⟨g,rfl⟩:=D.at p;have hJ:=bd6 g r.length c;have cj:=(D.cell p).1;have hs:=Hc.o j om;have hR:=Hb.o j p;have y:Hid (b36 M (j+1)=b36 M j+d5 M j-1):=zh rfl;obtain⟨S,hS⟩:=nq (b36 M j);obtain⟨a,ha⟩:=nq (d5 M j);rw[<-hS]at hs y|-;rw[<-ha]at cj hR y;clear hS ha;go_wp2_with fail;go_round;exact⟨j+1,om,zg,by rw[y.o];go_num⟩;exact zm1
  . have hA:j=r.length:=om;have hz:¬(j:Int)<(r.length:Int):=om;rw[hA]at hz|-;clear hA hj p;go_wp2_with fail;go_ret;exact⟨o3 (by rw[Hd.o]),hN.trans D.ext⟩
end Go.Zz
