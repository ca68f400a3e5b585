/- The console of the program, out of the answers to its lines. -/
import Derived.Test.YtjhoafjeopcheaaGreatGr15
import Derived.Test.YtjhoafjeopcheaaGreatGr21
set_option linter.all false
set_option maxHeartbeats 2000000
set_option maxRecDepth 100000
namespace Go.Zz
open Go.RowKit Go.Proofs
variable(a b S:Ba)(r:Bool)(v u:Value)(l:LI)(f:Nat)(X:LN)(w:World)(i x m:Nat){k:Nat}
def nlB:Ba:=⟨#[10]⟩
def lnL(t:Ba):List Ba:=if m8 (p7 10 t) ((p7 10 t).length-1)=mtB then(p7 10 t).take ((p7 10 t).length-1)else p7 10 t
def F2(r:Ba × Bool):Ba:=if r.2=false then Y8 else if r.1=mtB then wNo else r.1
def J9(G:Ba->Ba)(L:List Ba):Nat->Ba
 |0=>mtB
 |k+1=>if m8 L k=mtB then J9 G L k else J9 G L k++G (m8 L k)++nlB
def P1(G:Ba->Ba)(t:Ba):Ba:=if 2000<t.size then mtB else if 20<(lnL t).length then mtB else J9 G (lnL t) (lnL t).length
theorem bs5{G:Ba->Ba}{L:List Ba}(h:m8 L k=mtB):J9 G L (k+1)=J9 G L k:=if_pos h
theorem bs4{G:Ba->Ba}{L:List Ba}(h:¬m8 L k=mtB):J9 G L (k+1)=J9 G L k++G (m8 L k)++nlB:=if_neg h
theorem lr7(G:Ba->Ba):P1 G mtB=mtB:=by unfold P1 lnL;rw[jr8];rfl
theorem N2.cap{P w:World}{g n c:Nat}{L:List Ba}(h:N2 P w (.slice (some (aD g 0)) n c) L):n<=c:=by
 obtain⟨⟨-,r⟩,-⟩:=h;rcases r with⟨e,-⟩|⟨G,cap,u,e,-,-,H,m,-⟩;cases e;cases e;omega
theorem bm5{s:Ba}(h:s=mtB):s.toList.isEmpty=true:=by subst h;rw[pi];rfl
theorem ci5(L:List Ba)(m k:Nat)(h:k<m):m8 (L.take m) k=m8 L k:=by
 simp[m8,List.getD,h]
theorem zz28{P:Prop}(h:P:=by have hn:S.toList.isEmpty=true:=bm5 A;have B:(u++wNo).size=u.size+2:=(by rw[oe];rfl);have H:(u++wNo++nlB).size=u.size+3:=(by rw[oe,B];rfl);clear A;go_wp2_with(first|(go_at_call 13;refine(hc2 _).mono ?_;rintro e n⟨p,rfl,Y,I⟩;have a:=f p n Y.strs)|(go_at_call 14;refine cm a fun w3 O=>?_));go_roundw;exact⟨k+1,_,om,zg,rfl,by(first|(rw[H];omega)|(have:=H;unfold wNo nlB at this;rw[this];omega)),E.trans (I.trans O),Z⟩;exact zm1):P:=h
theorem zz33{P:Prop}(h:P:=by have hn:=b65 A;have B:(u++S).size=u.size+S.size:=oe;have H:(u++S++nlB).size=u.size+S.size+1:=(by rw[oe,B];rfl);clear A;go_wp2_with(first|(go_at_call 13;refine(hc2 _).mono ?_;rintro e n⟨p,rfl,Y,I⟩;have a:=f p n Y.strs)|(go_at_call 14;refine cm a fun w3 O=>?_));go_roundw;exact⟨k+1,_,om,zg,rfl,by(first|(rw[H];omega)|(have:=H;unfold nlB at this;rw[this];omega)),E.trans (I.trans O),Z⟩;exact zm1):P:=h
theorem zz35{P:Prop}(h:P:=by have B:(u++Y8).size=u.size+4:=(by rw[oe];rfl);have H:(u++Y8++nlB).size=u.size+5:=(by rw[oe,B];rfl);go_wp2_with(first|(go_at_call 13;refine(hc2 _).mono ?_;rintro e n⟨p,rfl,Y,I⟩;have a:=f p n Y.strs)|(go_at_call 14;refine cm a fun w3 O=>?_));go_roundw;exact⟨k+1,_,om,zg,rfl,by(first|(rw[H];omega)|(have:=H;unfold Y8 nlB at this;rw[this];omega)),E.trans (I.trans O),Z⟩;exact zm1):P:=h
theorem zz62{P:Prop}(h:P:=by clear m;go_wp2_with fail;go_roundw;exact⟨k+1,u,om,zg,rfl,nle hs (qr _ (Nat.le_succ k)),E,N⟩;exact zm1):P:=h
theorem zz152{P:Prop}(h:P:=by go_in;go_wp2_with fail;go_ret;exact⟨j5 q.o.symm,er _⟩):P:=h
theorem dl8(F:Ba->Ba × Bool)(s:Ba)(w:World)
 (hF:∀t,t∈p7 10 s->¬t=mtB->(F t).1.size<=4000/\∀v W,b04 W v (p7 32 t)->Calls Tryz.prog 14 #[v] W (RE W (.tuple #[.string (F t).1,.bool (F t).2]))) :
 Calls Tryz.prog 6 #[.string s] w (RE w (.string (P1 (fun x=>F2 (F x)) s))):=by
 by_cases r:2000<s.size;have hA:(2000:Int)<s.size:=om;have q:Hid (P1 (fun x=>F2 (F x)) s=mtB):=zh (if_pos r);exact zz152;have hA:¬(2000:Int)<s.size:=om;by_cases hm:s=mtB;have q:Hid (P1 (fun x=>F2 (F x)) s=mtB):=zh (by rw[hm];exact lr7 _);have hy:s.toList.isEmpty=true:=bm5 hm;clear hm;exact zz152;have hy:=b65 hm;have q:Hid (P1 (fun x=>F2 (F x)) s=if 20<(lnL s).length then mtB else J9 (fun x=>F2 (F x)) (lnL s) (lnL s).length):=zh (if_neg r);obtain⟨hf,ho,hr⟩:=K6 10 s;have hcut:=br7 s 10 w om;have Hb:Hid (lnL s=if m8 (p7 10 s) ((p7 10 s).length-1)=mtB then(p7 10 s).take ((p7 10 s).length-1)else p7 10 s):=zh rfl;obtain⟨L,hq⟩:=nq (p7 10 s);rw[<-hq]at hf ho hr hcut Hb hF;obtain⟨M,hM⟩:=nq (L.length);rw[<-hM]at ho hr Hb;obtain⟨P,hP⟩:=nq (M-1);rw[<-hP]at Hb;have hH:P+1=M:=om;have hG:IntKind.i64.wrap ((M:Int)-1)=(P:Int):=(by rw[oD _ om];omega);have HF:=zh hF;have Hr:=zh hf;have y:=zh hM;have hD:P<=L.length:=om;clear hm hq hF hf hP hM;by_cases hl:m8 L P=mtB
 . have hB:(m8 L P).toList.isEmpty=true:=bm5 hl;have j:Hid (lnL s=L.take P/\(L.take P).length=P):=zh ⟨by rw[Hb.o,if_pos hl],by rw[ol];omega⟩;clear hl;by_cases ha:20<P
   . have hh:(20:Int)<P:=om;have R:Hid (P1 (fun x=>F2 (F x)) s=mtB):=zh (by rw[q.o,j.o.1,j.o.2,if_pos ha]);go_in;go_wp2_with(go_at_call 13;refine hcut.mono ?_;rintro e G⟨v1,rfl,X,z⟩;obtain⟨g,c,D,l,d⟩:=X.indexS (by rw[<-y.o];omega);rw[<-y.o]at D l d;subst D;have hp:=X.cap;have ht:=l P om;have hC:=U6 elS szS (some (aD g 0)) M c (P:Int) om om;clear l);go_ret;exact⟨j5 R.o.symm,z⟩
   have hh:¬(20:Int)<P:=om;have R:Hid (P1 (fun x=>F2 (F x)) s=J9 (fun x=>F2 (F x)) (L.take P) P):=zh (by rw[q.o,j.o.1,j.o.2,if_neg ha]);go_in;go_wp2_with(go_at_call 13;refine hcut.mono ?_;rintro e G⟨v1,rfl,X,z⟩;obtain⟨g,c,D,l,d⟩:=X.indexS (by rw[<-y.o];omega);rw[<-y.o]at D l d;subst D;have hp:=X.cap;have ht:=l P om;have hC:=U6 elS szS (some (aD g 0)) M c (P:Int) om om;have Hl:=zh l;clear l);have hw:∀(i:Nat) W,i<P->(Instr.indexAt 29 (.slice (some (aD g 0)) P c) (vi (i:Int))).run Tryz.prog W=.ok (.pointer (some (aD g i))) W:=by
    intro i W J;exact zz32
   clear ht d hcut;go_loopw [4,35] (fun ov T wr=>∃(k:Nat) (u:Ba),k<=P/\T=vi k/\ov=.string u/\u.size<=k*4005/\Ext G wr/\Hid (u=J9 (fun x=>F2 (F x)) (L.take P) k)) (fun _ T _=>P-(intOf T).toNat);exact⟨0,_,om,rfl,rfl,oX _,er _,zh rfl⟩;case round =>
    obtain⟨k,u,V,rfl,rfl,hs,E,Hu⟩:=hrel;by_cases U:k<P
    . have he:=E.cell (Hl.o k om);have hz:(m8 L k).size<=100000:=(by have:=Hr.o _ (J8 (L:=L) (i:=k) (by rw[<-y.o];omega));omega);have Ha:=zh (HF.o (m8 L k) (J8 (by rw[<-y.o];omega)));obtain⟨x,K⟩:=nq (m8 L k);have Hk:Hid (m8 (L.take P) k=x):=zh ((ci5 L P k U:m8 (L.take P) k=m8 L k).trans K.symm);rw[<-K]at he hz Ha;clear K;by_cases m:x=mtB
      . have N:Hid (u=J9 (fun x=>F2 (F x)) (L.take P) (k+1)):=zh (by rw[Hu.o,bs5];rw[Hk.o];exact m);have hj:x.toList.isEmpty=true:=bm5 m;exact zz62
      . have hj:=b65 m;have N:Hid (u++F2 (F x)++nlB=J9 (fun x=>F2 (F x)) (L.take P) (k+1)):=zh (by rw[Hu.o,bs4 (by rw[Hk.o];exact m),Hk.o]);obtain⟨hg,f⟩:=Ha.o m;obtain⟨S,Q⟩:=nq ((F x).1);obtain⟨b,C⟩:=nq ((F x).2);have Hn:Hid (F2 (F x)=if b=false then Y8 else if S=mtB then wNo else S):=zh (by rw[Q,C];rfl);rw[<-Q]at hg f;rw[<-C]at f;have hc2:=fun W=>br7 x 32 W hz;have hu:nlB.size=1:=rfl;clear Q C m;cases b
        . have Z:Hid (u++Y8++nlB=J9 (fun x=>F2 (F x)) (L.take P) (k+1)):=zh (by rw[<-N.o,Hn.o];rfl);exact zz35
        . by_cases A:S=mtB
          . have Z:Hid (u++wNo++nlB=J9 (fun x=>F2 (F x)) (L.take P) (k+1)):=zh (by rw[<-N.o,Hn.o,if_neg (by decide),if_pos A]);exact zz28
          . have Z:Hid (u++S++nlB=J9 (fun x=>F2 (F x)) (L.take P) (k+1)):=zh (by rw[<-N.o,Hn.o,if_neg (by decide),if_neg A]);exact zz33
    . have hc:k=P:=om;subst hc;go_wp2_with fail;go_ret;exact⟨j5 (by rw[R.o,Hu.o]),z.trans E⟩
 have hB:(m8 L P).toList.isEmpty=false:=b65 hl;have j:Hid (lnL s=L/\L.length=M):=zh ⟨by rw[Hb.o,if_neg hl],y.o.symm⟩;clear hl;by_cases ha:20<M
 . have hh:(20:Int)<M:=om;have R:Hid (P1 (fun x=>F2 (F x)) s=mtB):=zh (by rw[q.o,j.o.1,j.o.2,if_pos ha]);go_in;go_wp2_with(go_at_call 13;refine hcut.mono ?_;rintro e G⟨v1,rfl,X,z⟩;obtain⟨g,c,D,l,d⟩:=X.indexS (by rw[<-y.o];omega);rw[<-y.o]at D l d;subst D;have hp:=X.cap;have ht:=l P om;skip;clear l);go_ret;exact⟨j5 R.o.symm,z⟩
 have hh:¬(20:Int)<M:=om;have R:Hid (P1 (fun x=>F2 (F x)) s=J9 (fun x=>F2 (F x)) L M):=zh (by rw[q.o,j.o.1,j.o.2,if_neg ha]);go_in;go_wp2_with(go_at_call 13;refine hcut.mono ?_;rintro e G⟨v1,rfl,X,z⟩;obtain⟨g,c,D,l,d⟩:=X.indexS (by rw[<-y.o];omega);rw[<-y.o]at D l d;subst D;have hp:=X.cap;have ht:=l P om;skip;have Hl:=zh l;clear l);have hw:∀(i:Nat) W,i<M->(Instr.indexAt 29 (.slice (some (aD g 0)) M c) (vi (i:Int))).run Tryz.prog W=.ok (.pointer (some (aD g i))) W:=by
  intro i W J;exact zz32
 clear ht d hcut;go_loopw [4,35] (fun ov T wr=>∃(k:Nat) (u:Ba),k<=M/\T=vi k/\ov=.string u/\u.size<=k*4005/\Ext G wr/\Hid (u=J9 (fun x=>F2 (F x)) L k)) (fun _ T _=>M-(intOf T).toNat);exact⟨0,_,om,rfl,rfl,oX _,er _,zh rfl⟩;case round =>
  obtain⟨k,u,V,rfl,rfl,hs,E,Hu⟩:=hrel;by_cases U:k<M
  . have he:=E.cell (Hl.o k om);have hz:(m8 L k).size<=100000:=(by have:=Hr.o _ (J8 (L:=L) (i:=k) (by rw[<-y.o];omega));omega);have Ha:=zh (HF.o (m8 L k) (J8 (by rw[<-y.o];omega)));obtain⟨x,K⟩:=nq (m8 L k);have Hk:Hid (m8 L k=x):=zh ((rfl:m8 L k=m8 L k).trans K.symm);rw[<-K]at he hz Ha;clear K;by_cases m:x=mtB
    . have N:Hid (u=J9 (fun x=>F2 (F x)) L (k+1)):=zh (by rw[Hu.o,bs5];rw[Hk.o];exact m);have hj:x.toList.isEmpty=true:=bm5 m;exact zz62
    . have hj:=b65 m;have N:Hid (u++F2 (F x)++nlB=J9 (fun x=>F2 (F x)) L (k+1)):=zh (by rw[Hu.o,bs4 (by rw[Hk.o];exact m),Hk.o]);obtain⟨hg,f⟩:=Ha.o m;obtain⟨S,Q⟩:=nq ((F x).1);obtain⟨b,C⟩:=nq ((F x).2);have Hn:Hid (F2 (F x)=if b=false then Y8 else if S=mtB then wNo else S):=zh (by rw[Q,C];rfl);rw[<-Q]at hg f;rw[<-C]at f;have hc2:=fun W=>br7 x 32 W hz;have hu:nlB.size=1:=rfl;clear Q C m;cases b
      . have Z:Hid (u++Y8++nlB=J9 (fun x=>F2 (F x)) L (k+1)):=zh (by rw[<-N.o,Hn.o];rfl);exact zz35
      . by_cases A:S=mtB
        . have Z:Hid (u++wNo++nlB=J9 (fun x=>F2 (F x)) L (k+1)):=zh (by rw[<-N.o,Hn.o,if_neg (by decide),if_pos A]);exact zz28
        . have Z:Hid (u++S++nlB=J9 (fun x=>F2 (F x)) L (k+1)):=zh (by rw[<-N.o,Hn.o,if_neg (by decide),if_neg A]);exact zz33
  . have hc:k=M:=om;subst hc;go_wp2_with fail;go_ret;exact⟨j5 (by rw[R.o,Hu.o]),z.trans E⟩
theorem b04.indexS{w:World}{v:Value}{L:List Ba}(h:b04 w v L)(H:0<L.length):∃g c,v=.slice (some (aD g 0)) L.length c /\
 (∀i,i<L.length->w.cell? (aD g i)=some (.string (m8 L i)))/\∀(i:Nat) W,i<L.length->(Instr.indexAt 29 (.slice (some (aD g 0)) L.length c) (vi (i:Int))).run Tryz.prog W=.ok (.pointer (some (aD g i))) W:=by
 obtain⟨Q,c,rfl,n,l⟩:=h;obtain⟨g,rfl,-⟩:=l 0 H;refine⟨g,c,rfl,fun i J=>?_,fun i W J=>?_⟩
 exact zz167;exact zz32
theorem l32(hv:b04 w v [a,b])
 (o:∀W,Calls Tryz.prog 25 #[.string a,.string b] W (RE W (.tuple #[.string S,.bool r]))) :
 Calls Tryz.prog 14 #[v] w (RE w (.tuple #[.string S,.bool r])):=by
 obtain⟨g,c,rfl,h,i⟩:=hv.indexS zm;have f:=fun U=>(c9 w U).cell (h 0 zm);have j:=fun U=>(c9 w U).cell (h 1 zm);change ∀U,(Lat w U).cell? (aD g 0)=some (.string a)at f;change ∀U,(Lat w U).cell? (aD g 1)=some (.string b)at j;have I:=fun W=>i 0 W zm;have V:=fun W=>i 1 W zm;change ∀W,(Instr.indexAt 29 (.slice (some (aD g 0)) 2 c) (vi 0)).run Tryz.prog W=_ at I;change ∀W,(Instr.indexAt 29 (.slice (some (aD g 0)) 2 c) (vi 1)).run Tryz.prog W=_ at V;change Calls Tryz.prog 14 #[.slice (some (aD g 0)) 2 c] w _;clear h i hv;have E:=er w;go_in;go_wp2_with fail;refine wl E ?_;(repeat(go_big_quiet_step(first|(go_at_call 25;exact oa (o _)))));refine zd fun W E=>?_;go_wp2_with fail;exact br (.tuple #[.string S,.bool r]) ⟨rfl,E⟩
theorem l33(d S:Ba)(r:Bool)(v:Value)(w:World)(hv:b04 w v [a,b,d])
 (o:∀W,Calls Tryz.prog 26 #[.string a,.string b,.string d] W (RE W (.tuple #[.string S,.bool r]))) :
 Calls Tryz.prog 14 #[v] w (RE w (.tuple #[.string S,.bool r])):=by
 obtain⟨g,c,rfl,h,i⟩:=hv.indexS zm;have f:=fun U=>(c9 w U).cell (h 0 zm);have k:=fun U=>(c9 w U).cell (h 1 zm);have j:=fun U=>(c9 w U).cell (h 2 zm);change ∀U,(Lat w U).cell? (aD g 0)=some (.string a)at f;change ∀U,(Lat w U).cell? (aD g 1)=some (.string b)at k;change ∀U,(Lat w U).cell? (aD g 2)=some (.string d)at j;have I:=fun W=>i 0 W zm;have V:=fun W=>i 1 W zm;have X:=fun W=>i 2 W zm;change ∀W,(Instr.indexAt 29 (.slice (some (aD g 0)) 3 c) (vi 0)).run Tryz.prog W=_ at I;change ∀W,(Instr.indexAt 29 (.slice (some (aD g 0)) 3 c) (vi 1)).run Tryz.prog W=_ at V;change ∀W,(Instr.indexAt 29 (.slice (some (aD g 0)) 3 c) (vi 2)).run Tryz.prog W=_ at X;change Calls Tryz.prog 14 #[.slice (some (aD g 0)) 3 c] w _;clear h i hv;have E:=er w;go_in;go_wp2_with fail;refine wl E ?_;(repeat(go_big_quiet_step(first|(go_at_call 26;exact oa (o _)))));refine zd fun W E=>?_;go_wp2_with fail;exact br (.tuple #[.string S,.bool r]) ⟨rfl,E⟩
theorem cv1(L:List Ba)(v:Value)(w:World)(V:b04 w v L)(h:¬L.length=2/\¬L.length=3/\¬L.length=4):Calls Tryz.prog 14 #[v] w (RE w (.tuple #[.string mtB,.bool false])):=by
 obtain⟨Q,c,rfl,-,-⟩:=V;obtain⟨r,T,a⟩:=h;obtain⟨n,H⟩:=nq (L.length);rw[<-H]at r T a|-;have e:((n:Int) == 2)=false:=by rw[beq_eq_false_iff_ne];omega
 have E:((n:Int) == 3)=false:=by rw[beq_eq_false_iff_ne];omega
 have X:((n:Int) == 4)=false:=by rw[beq_eq_false_iff_ne];omega
 clear H;go_in;go_wp2_with fail;exact bodyPost_ret (v:=.tuple #[.string mtB,.bool false]) (by simp[results,Tryz.results14,go_sem];rfl) rfl ⟨rfl,er _⟩
theorem bq9:B9 (X++[x]) m=B9 X m++(if m.testBit X.length then [x]else []):=by
 unfold B9;rw[oh,oo,oW,qd,pF];congr 1;apply qA;intro i J;have:=ou.1 (qK.1 J).1;simp[d5,List.getD,List.getElem?_append_left this];cases h:m.testBit X.length<;>simp[h,d5,List.getD]
theorem bw2{P:LN->Prop}(H:P [])(o:∀X x,P X->P (X++[x])):∀(n:Nat) (X:LN),X.length=n->P X
 |0,X,h=>by rw[oF h];exact H
 | n+1,X,h=>by
  rcases List.eq_nil_or_concat X with rfl|⟨Y,y,rfl⟩
  . simp at h
  . rw[List.concat_eq_append]at h|-
    exact o Y y (bw2 H o n Y (by simpa using h))
theorem j52{Y Z:LN}{x:Nat}(h:Y.Sublist (Z++[x])):Y.Sublist Z\/∃y,Y=y++[x]/\y.Sublist Z:=by
 obtain⟨A,B,rfl,a,H⟩:=List.sublist_append_iff.1 h;cases B with
 |nil=>left;simpa using a
 |cons b B =>
  have l:=H.length_le;have:B=[]:=by simpa using l
  subst this;have:b=x:=by have:=H.subset (oE.2 rfl);simpa using this
  subst this;exact Or.inr ⟨A,rfl,a⟩
theorem jx7:(B9 X m).Sublist X:=by
 refine bw2 (P:=fun X=>(B9 X m).Sublist X) ?_ ?_ _ X rfl;simp[B9];intro X x i;rw[bq9];refine i.append ?_;split;exact List.Sublist.refl _;exact List.nil_sublist _
theorem jx6{m M:Nat}(h:∀i,i<X.length->m.testBit i=M.testBit i):B9 X m=B9 X M:=by
 unfold B9;congr 1;apply List.filter_congr;intro i J;exact h i (ou.1 J)
theorem lc6{X:LN}:∀{Y},Y.Sublist X->∃m,m<2^X.length/\B9 X m=Y:=by
 refine bw2 (P:=fun X=>∀{Y},Y.Sublist X->∃m,m<2^X.length/\B9 X m=Y) ?_ ?_ _ X rfl;intro Y h;have:Y=[]:=(by simpa using h);subst this;exact⟨0,zm,by simp[B9]⟩;intro X x I Y h;rcases j52 h with H|⟨y,rfl,H⟩
 obtain⟨m,M,rfl⟩:=I H;refine⟨m,by simp[pU];omega,?_⟩;rw[bq9,Nat.testBit_lt_two_pow M];simp;obtain⟨m,M,rfl⟩:=I H;refine⟨m ||| 2^X.length,ox (by rw[oh,oo,pU];omega) (oJ om zm),?_⟩;rw[bq9,oN,Nat.testBit_two_pow_self,Bool.or_true];simp only[if_true];congr 1;refine jx6 X fun i J=>?_;rw[oN,pd];simp[show ¬X.length=i by omega]
theorem la8{m:Nat}(h:∀i,i<X.length->m.testBit i=true):B9 X m=X:=by
 unfold B9;rw[List.filter_eq_self.2 (by intro i J;exact h i (ou.1 J))];apply List.ext_getElem;simp;intro i o r;simp[d5,List.getD,r]
theorem jh9{l:LI}(H:d7 l=true)(X:LN):(∀x∈X,x<ord l)->∀z,(sbs l X).testBit z=true↔∃Y,Y.Sublist X/\Y≠[]/\tot l Y=z:=by
 have O:=m0 H;have b:=l8 H;refine bw2 (P:=fun X=>(∀x∈X,x<ord l)->∀z,(sbs l X).testBit z=true↔∃Y,Y.Sublist X/\Y≠[]/\tot l Y=z) ?_ ?_ _ X rfl;intro _ z;constructor;intro h;simp[sbs]at h;rintro⟨Y,o,r,-⟩;exact absurd (by simpa using o) r;intro X x i u z;have Q:∀y∈X,y<ord l:=fun y I=>u y (by simp[I]);have K:x<ord l:=u x zm;have i:=i Q;have d:=bj1 H X (fun y I=>by have:=Q y I;omega);rw[cz9,oN,oN,pG,pG,i z,E8,pd,decide_eq_true_eq];constructor
 rintro ((⟨Y,o,r,T⟩|⟨y,I,C,E⟩)|rfl);exact⟨Y,o.trans (List.sublist_append_left X [x]),r,T⟩;obtain⟨Y,o,r,T⟩:=(i y).1 C;exact⟨Y++[x],o.append (List.Sublist.refl _),zm,by rw[bl7,T,E4];exact E⟩;exact⟨[x],List.sublist_append_right X [x],zm,by show j9 l 0 x=x;exact C9 l O x K⟩;rintro⟨Y,o,r,T⟩;rcases j52 o with h|⟨m,e,h⟩;exact Or.inl (Or.inl ⟨Y,h,r,T⟩);subst e;by_cases E:m=[];subst E;right;rw[<-T];show x=j9 l 0 x;exact(C9 l O x K).symm;refine Or.inl (Or.inr ⟨tot l m,?_,(i _).2 ⟨m,h,E,rfl⟩,?_⟩);exact nlt (bo1 H m) (oc _);rw[bl7,E4]at T;exact T
def exI(X:LN)(i:Nat):LN:=X.take i++X.drop (i+1)
theorem js5:exI X i=X.eraseIdx i:=by unfold exI;rw[List.eraseIdx_eq_take_drop_succ]
theorem lj5{X:LN}{i:Nat}(h:i<X.length):(exI X i).length+1=X.length:=by
 unfold exI;rw[oh,ol,pc];omega
theorem cn2:(exI X i).Sublist X:=by rw[js5];exact List.eraseIdx_sublist X i
theorem l53:exI (X++[x]) X.length=X:=by unfold exI;simp
theorem l54{X:LN}{i:Nat}(h:i<X.length):exI (X++[x]) i=exI X i++[x]:=by
 unfold exI;rw[qy om,List.drop_append_of_le_length om,pr]
theorem lm7:∀i,i<X.length->m.testBit i=false->(B9 X m).Sublist (exI X i):=by
 refine bw2 (P:=fun X=>∀i,i<X.length->m.testBit i=false->(B9 X m).Sublist (exI X i)) ?_ ?_ _ X rfl;intro i J;simp at J;intro X x I i J C;rw[bq9];by_cases e:i=X.length;subst e;rw[C,l53];simp only[pb,if_false,pV];exact jx7 X m;have h:i<X.length:=(by simp at J;omega);rw[l54 x h];refine(I i h C).append ?_;split;exact List.Sublist.refl _;exact List.nil_sublist _
def mnB(l:LI)(X:LN):Bool:=(List.range X.length).all fun i=>!(sbs l (exI X i)).testBit 0
def pmB(l:LI)(X:LN):Bool:=(List.range (pw X.length-1)).all fun m=>decide (m=0) || decide (tot l (B9 X m)≠0)
theorem co4{l:LI}{X:LN}:mnB l X=true↔∀i,i<X.length->(sbs l (exI X i)).testBit 0=false:=by
 unfold mnB;simp[oC]
theorem dc6{l:LI}{X:LN}:pmB l X=true↔∀m,m<pw X.length-1->m≠0->tot l (B9 X m)≠0:=by
 unfold pmB;simp only[oC,ou,pG,decide_eq_true_eq];constructor;intro H m o r;rcases H m o with e|e
 exact absurd e r;exact e;intro H m o;by_cases e:m=0;exact Or.inl e;exact Or.inr (H m o e)
theorem la7{X:LN}{m:Nat}(H:m<2^X.length)(h:m≠0):B9 X m≠[]:=by
 intro e;obtain⟨i,J⟩:=Nat.exists_testBit_of_ne_zero h;have l:i<X.length:=by
  rcases qq i X.length with q|q;exact q;rw[W4 H q]at J;cases J
 have:d5 X i∈B9 X m:=by
  unfold B9;exact pp.2 ⟨i,qK.2 ⟨ou.2 l,J⟩,rfl⟩
 rw[e]at this;cases this
theorem lz7{l:LI}(H:d7 l=true){X:LN}(v:∀x∈X,x<ord l):pmB l X=mnB l X:=by
 rw[oA,dc6,co4];have p:pw X.length=2^X.length:=rfl;constructor;intro u i J;rw[<-pg,jh9 H _ (fun x K=>v x ((cn2 X i).subset K))];rintro⟨Y,o,r,T⟩;obtain⟨m,M,rfl⟩:=lc6 (o.trans (cn2 X i));refine u m ?_ ?_ T
 rw[p];rcases qq m (2^X.length-1)with q|q
 exact q;exfalso;have e:m=2^X.length-1:=om;have:=o.length_le;rw[la8 X (fun j h=>by rw[e,Nat.testBit_two_pow_sub_one];simpa using h)]at this;have:=lj5 J;omega;rintro rfl;exact r (by simp[B9]);intro u m o r T;rw[p]at o;have M:m<2^X.length:=om;have J:∃i,i<X.length/\m.testBit i=false:=by
  apply oU;intro n;have e:m=2^X.length-1:=by
   apply oK;intro j;rw[Nat.testBit_two_pow_sub_one];by_cases h:j<X.length;cases C:m.testBit j;exact absurd ⟨j,h,C⟩ n;simp[h];rw[W4 M om];simp[h]
  omega
 obtain⟨i,J,C⟩:=J;have:=u i J;rw[<-pg,jh9 H _ (fun x K=>v x ((cn2 X i).subset K))]at this;exact this ⟨B9 X m,lm7 X m i J C,la7 M r,T⟩
def b27(l x:LI):Bool:=zsB l x&&(decide (x.length≠0)&&mnB l (x.map Int.toNat))
theorem jc5{l x:LI}(h:zsB l x=false):b27 l x=false:=by unfold b27;rw[h];rfl
theorem dq1:b27 l []=false:=by unfold b27;simp
theorem c67{l:LI}{X:LN}(h:zsB l (b9 X)=true)(H:X≠[]):b27 l (b9 X)=mnB l X:=by
 unfold b27;rw[h,c91];have:(b9 X).length≠0:=by rw[d9];intro e;exact H (oF e)
 simp[this]
theorem ll9{l:LI}{X:LN}(H:X≠[])(h:(sbs l (X.take (X.length-1))).testBit 0=true):mnB l X=false:=by
 rw[<-pg,co4];intro u;have L:0<X.length:=qN.2 H;have:=u (X.length-1) om;have e:exI X (X.length-1)=X.take (X.length-1):=by
  unfold exI;rw[List.drop_eq_nil_of_le om,pV]
 rw[e,h]at this;cases this
theorem zz129{P:Prop}(h:P:=by go_in;go_wp2_with fail;rw[<-Z.o];go_wp2_with(refine cm (t _ E) fun G z=>?_);go_ret;exact⟨j1 N.o.symm,F.trans (E.trans z)⟩):P:=h
theorem d11(s:LI)(w:World)(h:c8 w v l)(A:c8 w u s):Calls Tryz.prog 178 #[.agg #[v],u] w (RE w (.bool (b27 l s))):=by
 obtain⟨B,Z,F,C,H,E,Hz⟩:=m04 42 h;clear h;have HU:=zh (fun W (D:Ext B W)=>A.ext (F.trans D));have t:=fun W (D:Ext B W)=>bo4 v u l s W (H W D) (HU.o W D);have M:=C _ E;cases L:zsB l s
 have N:=zh (jc5 L);rw[L]at t;clear A L;exact zz129;rw[L]at t;have hq:q8 l s=true:=by
  cases S:q8 l s;rw[d87 S]at L;cases L;rfl
 obtain⟨X,rfl,ho,he,Y,q⟩:=I9 hq;by_cases V:X=[];subst V;have N:Hid (b27 l (b9 [])=false):=zh (dq1 l);obtain⟨Q,c,ar,rfl,-,-⟩:=A.nats;clear L;exact zz129;have N:Hid (b27 l (b9 X)=pmB l X):=zh ((c67 L V).trans (lz7 Y ho).symm);have Hl:=zh q;have R:=zh Y;have hp:=j22 he;have hj:=X9 X.length;have hc:=o6 (n:=X.length) om;obtain⟨Q,c,ar,rfl,-,-⟩:=A.nats;have hm:(((X.length:Nat):Int) == 0)=false:=by
  rw[beq_eq_false_iff_ne];intro e;exact V (oF om)
 clear A L q Y V hq ho;go_in;go_wp2_with fail;rw[<-Z.o];go_wp2_with(refine cm (t _ E) fun G z=>?_);replace E:=z;clear z M t;go_loopw [5] (fun i wr=>∃m:Nat,1<=m/\i=vi m/\m<=4096/\Hid (∀j,j<m->j<pw X.length-1->j≠0->tot l (B9 X j)≠0)/\Ext B wr) (fun i _=>4096-(intOf i).toNat);exact⟨1,om,rfl,om,zh (fun j h1 r T=>om),E⟩;case round =>
  clear E;obtain⟨m,hk,rfl,hl,O,E⟩:=hrel;obtain⟨J,d⟩:=nq (pw X.length);rw[<-d]at hp hj hc O;have I:=zh d;clear d;by_cases U:m<J-1
  . have hI:(m:Int)<(J:Int)-1:=om;have ha:m<2^24:=om;have b:=sh E C;have hw:=sh E H;have Hw:Hid (∀W,Ext wr W->c8 W (.slice Q X.length c) (b9 X)):=zh fun W D=>HU.o W (E.trans D);have z:=E;clear E;have E:=er wr;by_cases y:tot l (B9 X m)=0
    . have P:Hid (pmB l X=false):=zh (by
       rw[<-pg,dc6];intro HH;exact HH m (by rw[<-I.o];exact U) om y)
      have hf:((tot l (B9 X m):Int) == 0)=true:=by rw[y];simp
      have M:=b wr E
      clear y
      go_wp2_with fail
      have hD:=(er (wr)).drew
      first|(go_region_held3 (fun W=>Ext (wr) W/\W.cell? (aD w.heap.size 0)=some v) (exact⟨xq,b _ xq⟩) (first|(go_at_call 252;((with_reducible refine od (bv4 _ _ _ _ (Hw.o _ xq) ha om) ?_);rintro e wd⟨vP,rfl,g,k⟩;have hi:=og (a:=wr) xq k))|(go_at_call 259;((with_reducible refine od (ba5 _ _ _ _ _ (hw _ xq) g.ints R (zh fun x K=>Hl.o x (b22 K))) ?_);rintro e wa⟨rfl,p⟩;have hh:=og (a:=wr) xq p))))|(fail "the region with calls")
      go_wp2_with fail
      go_ret
      exact⟨j1 (by rw[N.o,P.o]),F.trans (z.trans xq)⟩
    . have Ht:=zh y;have hf:((tot l (B9 X m):Int) == 0)=false:=zso;have M:=b wr E;clear y;go_wp2_with fail;have hD:=(er (wr)).drew;(first|(go_region_held3 (fun W=>Ext (wr) W/\W.cell? (aD w.heap.size 0)=some v) (exact⟨xq,b _ xq⟩) (first|(go_at_call 252;((with_reducible refine od (bv4 _ _ _ _ (Hw.o _ xq) ha om) ?_);rintro e wd⟨vP,rfl,g,k⟩;have hi:=og (a:=wr) xq k))|(go_at_call 259;((with_reducible refine od (ba5 _ _ _ _ _ (hw _ xq) g.ints R (zh fun x K=>Hl.o x (b22 K))) ?_);rintro e wa⟨rfl,p⟩;have hh:=og (a:=wr) xq p))))|(fail "the region with calls"));go_wp2_with fail;go_roundw;exact⟨m+1,om,zg,om,zh (fun j p1 f p3=>by by_cases e:j=m;(subst e;exact Ht.o);exact O.o j om (by rw[I.o];exact f) p3),z.trans xq⟩;exact zm1
  . have hI:¬(m:Int)<(J:Int)-1:=om;have P:Hid (pmB l X=true):=zh (dc6.2 fun j p1 f=>O.o j (by have:=I.o;omega) (by have:=I.o;omega) f);go_wp2_with fail;go_ret;exact⟨j1 (by rw[N.o,P.o]),F.trans E⟩
theorem jq4:(b9 X).take i++(b9 X).drop (i+1)=b9 (exI X i):=by
 unfold exI b9;simp[List.map_take,List.map_drop]
theorem ck7(h:c8 w v l)(U:c8 w u (b9 X))(R:Hid (d7 l=true))(z:∀x∈X,x<ord l)(hM:X.length<=100):Calls Tryz.prog 224 #[.agg #[v],u] w (RE w (.bool (mnB l X))):=by
 obtain⟨B,Z,F,C,H,E,Hz⟩:=m04 42 h;clear h;have hw:=l8 R.o;have T:=zh (fun W (D:Ext B W)=>U.ext (F.trans D));obtain⟨Q,c,ar,rfl,hr,hl⟩:=U.nats;have hH:X.length<=c:=by
  obtain⟨_,_,V,hc,_⟩:=U;rw[d9]at V hc;simp only[Value.slice.injEq]at V;omega
 have HX:=zh (fun i x (K:x∈exI X i)=>z x ((cn2 X i).subset K));clear hr hl U z;go_in;go_wp2_with fail;rw[<-Z.o];go_loopw [5] (fun p wr=>∃i:Nat,i<=X.length/\p=vi i/\Hid (∀j,j<i->(sbs l (exI X j)).testBit 0=false)/\Ext B wr) (fun p _=>X.length-(intOf p).toNat);exact⟨0,om,rfl,zh om,E⟩
 clear E;obtain⟨i,J,rfl,r,E⟩:=hrel;by_cases hit:i<X.length
 . have ho:=fun W=>U6 (P:=Tryz.prog) elI szI Q X.length c (i:Int) om om W;have hp:=fun W=>Y0 (P:=Tryz.prog) elI szI Q X.length c (i:Int) om om W;have hh:=fun W=>T6 (P:=Tryz.prog) elI szI Q X.length c ((i:Int)+1) om om W;have hs:=fun W=>S6 (P:=Tryz.prog) elI szI Q X.length c ((i:Int)+1) om om W;rw[show((i:Int)).toNat=i by omega]at ho hp;rw[show((i:Int)+1).toNat=i+1 by omega]at hh hs;have hz:IntKind.i64.wrap ((i:Int)+1)=(i:Int)+1:=oD _ om;have hm:=d9 X;have g:=zh (fun W (D:Ext wr W)=>(T.o W (E.trans D)).take (k:=i) om);have d:=zh (fun W (D:Ext wr W)=>(T.o W (E.trans D)).drop (k:=i+1) om);have L:((b9 X).take i).length+((b9 X).drop (i+1)).length<=17592186044416:=(by rw[ol,pc];omega);have q:=zh (jq4 X i);obtain⟨A,N⟩:=nq ((b9 X).take i);obtain⟨b,M⟩:=nq ((b9 X).drop (i+1));rw[<-N]at g L q;rw[<-M]at d L q;have m:=HX.o i;obtain⟨Y,y⟩:=nq (exI X i);rw[<-y]at q m;have HY:=zh y;have f:=fun W vy (D:Ext B W) (hy:c8 W vy (b9 Y))=>bb0 v vy l Y W (H W D) hy R (zh fun x K=>by have:=m x K;omega);have hk:=bj1 R.o Y (fun x K=>by have:=m x K;omega);obtain⟨S,s⟩:=nq (sbs l Y);simp only[<-s]at f;rw[<-s]at hk;have HS:=zh s;clear N M hm y s m;have h1:=Z5 (a:=S) om;have ha:=E;clear E;have E:=er wr;go_wp2_with fail;first|(go_region_held3 (fun W=>Ext wr W) (exact xq) (first|(have hI:=O;refine q9 slI rfl _ _ rfl wr wr _ _ A b (Or.inr (by first|exact O|exact O.alloc _|exact(O.alloc _).drew)) (d.o _ xq) xq L rfl rfl ?_;intro vD wD hf hD hJ)|(refine Q6 slI rfl _ _ rfl _ _ A rfl rfl zq0 (g.o _ xq) wr (by first|exact oc _|omega|(simp;omega)) xq ?_;intro aC cC wC O hL hC;have hK:=og (a:=wr) xq hC)))|(fail "the region")
   all_goals
    obtain⟨aN,cN,rfl,hN,he⟩:=MiP.of hf hD
    have n:=ha.trans he
    have hO:=C _ n
    generalize (A++b).length=nN at hN|-
    have hn:c8 wD (.slice aN nN cN) (b9 Y):=by rw[<-q.o];exact hN.ints
    cases t:S.testBit 0
    . have hq:(((S%2:Nat):Int) == 1)=false:=by rw[ps]at t;rw[beq_eq_false_iff_ne];have:=of_decide_eq_false t;omega
      have Ht:=zh t
      clear t
      go_wp2_with(go_at_call 117;refine cm (f _ _ n hn) fun w4 I=>?_)
      go_roundw
      case rel=>exact⟨i+1,om,zg,zh fun j hj=>by by_cases e:j=i;(rw[e,<-HY.o,<-HS.o];exact Ht.o);exact r.o j om,n.trans I⟩
      case measure=>exact zm1
    . have hq:(((S%2:Nat):Int) == 1)=true:=by rw[ps]at t;rw[beq_iff_eq];have:=of_decide_eq_true t;omega
      have G:Hid (mnB l X=false):=zh (by
       rw[<-pg,co4];intro HH;have:=HH i hit;rw[<-HY.o,<-HS.o,t]at this;cases this)
      clear t
      go_wp2_with(go_at_call 117;refine cm (f _ _ n hn) fun w4 I=>?_)
      go_ret
      exact⟨j1 G.o.symm,F.trans (n.trans I)⟩
 have hG:i=X.length:=om;have G:Hid (mnB l X=true):=zh (co4.2 fun j hj=>r.o j om);go_wp2_with fail;go_ret;exact⟨j1 G.o.symm,F.trans E⟩
theorem ja3(M:LI)(w:World)(h:c8 w v l)(U:c8 w u M):Calls Tryz.prog 121 #[.agg #[v],u] w (RE w (.bool (b27 l M))):=by
 obtain⟨B,Z,F,C,H,E,Hz⟩:=m04 42 h;clear h;have I:=zh (fun W (D:Ext B W)=>U.ext (F.trans D));have t:=fun W (D:Ext B W)=>bl4 v u l M W (H W D) (I.o W D);have hh:=fun i=>C _ (c9 B i);cases z:zsB l M
 . have N:=zh (jc5 z);rw[z]at t;obtain⟨Q,c,d,rfl,-,-⟩:=U.op;clear z;go_in;go_wp2_with fail;rw[<-Z.o];refine wl E ?_;(repeat(go_big_quiet_step(first|(go_at_call 119;with_reducible exact oa (t _ (c9 B _))))));refine zd fun W E=>?_;go_wp2_with fail;exact zz9
 rw[z]at t;have e:q8 l M=true:=by
  cases S:q8 l M;rw[d87 S]at z;cases z;rfl
 obtain⟨X,rfl,O,hj,Y,A⟩:=I9 e;by_cases T:X=[]
 . subst T;have N:Hid (b27 l (b9 [])=false):=zh (dq1 l);obtain⟨Q,c,d,rfl,-,-⟩:=U.nats;clear z;go_in;go_wp2_with fail;rw[<-Z.o];refine wl E ?_;(repeat(go_big_quiet_step(first|(go_at_call 119;with_reducible exact oa (t _ (c9 B _))))));refine zd fun W E=>?_;go_wp2_with fail;exact zz9
 have N:Hid (b27 l (b9 X)=mnB l X):=zh (c67 z T);have R:=zh Y;have hk:0<X.length:=qN.2 T;have p:∀{W:World} {Q:Option Addr} {c:Nat},c8 W (.slice Q X.length c) (b9 X)->X.length<=c:=fun j=>by
  obtain⟨_,_,J,V,_⟩:=j
  rw[d9]at J V
  simp only[Value.slice.injEq]at J
  omega
 obtain⟨Q,c,d,rfl,-,-⟩:=U.nats;have V:=p U;have hl:=fun W=>U6 (P:=Tryz.prog) elI szI Q X.length c ((X.length:Int)-1) om om W;have hf:=fun W=>Y0 (P:=Tryz.prog) elI szI Q X.length c ((X.length:Int)-1) om om W;rw[show((X.length:Int)-1).toNat=X.length-1 by omega]at hl hf;have hi:(0:Int)<(X.length:Int):=om;have b:=fun W (D:Ext B W)=>ck7 v _ l X W (H W D) (I.o W D) R O om;have G:=zh (fun W (D:Ext B W)=>(I.o W D).take (k:=X.length-1) (by rw[d9];omega));have L:(b9 X).take (X.length-1)=b9 (X.take (X.length-1)):=(by unfold b9;rw[List.map_take]);rw[L]at G;have r:∀x∈X.take (X.length-1),x<24:=fun x K=>A x (pJ K);have f:=fun W (D:Ext B W)=>bb0 v _ l (X.take (X.length-1)) W (H W D) (G.o W D) R (zh r);have he:=bj1 R.o (X.take (X.length-1)) r;have g:=zh (fun h=>ll9 (l:=l) T h);obtain⟨s,m⟩:=nq (sbs l (X.take (X.length-1)));simp only[<-m]at f;rw[<-m]at he g;clear m L U z A Y T e O p r G;have h1:=Z5 (a:=s) om;cases y:s.testBit 0
 . have q:(((s%2:Nat):Int) == 0)=true:=(by rw[da1,y];rfl);have ha:((s:Int)%2 == 0)=true:=q;clear y;go_in;go_wp2_with fail;rw[<-Z.o];refine wl E ?_;(repeat(go_big_quiet_step(first|(go_at_call 119;with_reducible exact oa (t _ (c9 B _)))|(go_at_call 117;with_reducible exact oa (f _ (c9 B _)))|(go_at_call 224;with_reducible exact oa (b _ (c9 B _))))));refine zd fun W E=>?_;go_wp2_with fail;exact zz9
 have q:(((s%2:Nat):Int) == 0)=false:=(by rw[da1,y];rfl);have ha:((s:Int)%2 == 0)=false:=q;have n:=zh (g.o y);clear y;go_in;go_wp2_with fail;rw[<-Z.o];refine wl E ?_;(repeat(go_big_quiet_step(first|(go_at_call 119;with_reducible exact oa (t _ (c9 B _)))|(go_at_call 117;with_reducible exact oa (f _ (c9 B _)))|(go_at_call 224;with_reducible exact oa (b _ (c9 B _))))));refine zd fun W E=>?_;go_wp2_with fail;go_ret;exact⟨j1 (by rw[N.o,n.o]),F.trans E⟩
def atZ(l:LI)(X:LN):Nat:=q7 l (tot l X)
def atC(l:LI)(X:LN)(m:Nat):Bool:=(decide (m<=atZ l X)&&(decide (X.length≠0) || decide (atZ l X=0)))&&mnB l (X++[atZ l X])
def atV(l:LI)(X:LN)(m:Nat):List (LN):=if atC l X m then [X++[atZ l X]]else []
def atR(l:LI):Nat->LN->Nat->Nat->List (LN)
 |0,_,_,_=>[]
 |f+1,X,S,m=>(List.range (ord l)).foldl (fun (A:List (LN)) (x:Nat)=>if x<max 1 m then A else if (nxS l S x).testBit 0 then A else A++atR l f (X++[x]) (nxS l S x) x) (atV l X m)
def atK(l:LI)(f:Nat)(X:LN)(S m k:Nat):List (LN):=(List.range k).foldl (fun (A:List (LN)) (x:Nat)=>if x<max 1 m then A else if (nxS l S x).testBit 0 then A else A++atR l f (X++[x]) (nxS l S x) x) (atV l X m)
theorem jc4(S m:Nat):atR l (f+1) X S m=atK l f X S m (ord l):=rfl
theorem c65(S m k:Nat):atK l f X S m (k+1)=(if k<max 1 m then atK l f X S m k else if (nxS l S k).testBit 0 then atK l f X S m k else atK l f X S m k++atR l f (X++[k]) (nxS l S k) k):=by
 unfold atK;rw[oW,oH];rfl
theorem ce7(l:LI)(f:Nat)(X:LN)(S m:Nat):∀k,k<=max 1 m->atK l f X S m k=atV l X m
 |0,_=>rfl
 |k+1,hk=>by rw[c65,if_pos om,ce7 l f X S m k om]
theorem dq0{l:LI}{f:Nat}{X:LN}{S m:Nat}(h:(nxS l S k).testBit 0=true):atK l f X S m (k+1)=atK l f X S m k:=by
 rw[c65];split;rfl;first|rfl|rw[if_pos h]
theorem d98{l:LI}{f:Nat}{X:LN}{S m:Nat}(H:max 1 m<=k)(h:(nxS l S k).testBit 0=false):atK l f X S m (k+1)=atK l f X S m k++atR l f (X++[k]) (nxS l S k) k:=by
 rw[c65,if_neg om,if_neg (by rw[h];simp)]
theorem c64(l:LI)(f:Nat)(X:LN)(S m k:Nat):∀d,(atK l f X S m k).length<=(atK l f X S m (k+d)).length
 |0=>oc _
 | d+1=>by
  refine nle (c64 l f X S m k d) ?_
  rw[<-qb,c65]
  split
  . exact oc _
  . split
    . exact oc _
    . rw[oh];omega
def atL(l:LI):List (LN):=atR l (ord l+1) [] 0 0
def jp4(n:Nat)(a:LN):Bool:=decide (1<=a.length)&&(decide (a.length<=7)&&a.all fun x=>decide (x<n))
def cm3(l:LI):Bool:=decide ((atL l).length<=48)&&(atL l).all (jp4 (ord l))
theorem ac0:cm3 []=true:=by decide +kernel
theorem ac1:((List.range 8).all fun a=>decide (a<2) || cm3 [(a:Int)])=true:=by decide +kernel
theorem ac2:((List.range 8).all fun a=>decide (a<2) || (List.range 8).all fun b=>decide (b<2) || (decide (7<a*b) || cm3 [(a:Int),(b:Int)]))=true:=by decide +kernel
theorem b99{p:Prop}[Decidable p]{b:Bool}(h:(decide p || b)=true)(n:¬p):b=true:=by
 rw[decide_eq_false n]at h;simpa using h
theorem rgS{p:Nat->Bool}(h:(List.range 8).all p=true){a:Nat}(H:a<=7):p a=true:=oC.1 h a (ou.2 om)
theorem jp5{l:LI}(h:d7 l=true)(g:ord l<=7):cm3 l=true:=by
 have C:=bl0 h;obtain⟨T,n,p⟩:=(W9 l).1 h;have p:C5 l<=7:=om;clear C;match l,T,n,p with
 |[],_,_,_=>exact ac0
 |[a],_,n,p =>
  have H:2<=a/\a<=24:=n 0 zm;have p:a<=7:=by simpa[C5]using p
  have:=b99 (rgS ac1 (a:=a.toNat) om) om;rwa [show((a.toNat:Nat):Int)=a by omega]at this
 |[a,b],_,n,p =>
  have H:2<=a/\a<=24:=n 0 zm;have o:2<=b/\b<=24:=n 1 zm;have P:a*b<=7:=by simpa[C5]using p
  have e:((a.toNat*b.toNat:Nat):Int)=a*b:=by rw[oO];congr 1<;>omega
  have q:a*2<=a*b:=pN o.1 om;have Q:2*b<=a*b:=pL H.1 om;have:=b99 (b99 (rgS (b99 (rgS ac2 (a:=a.toNat) om) om) (a:=b.toNat) om) om) om;rwa [show((a.toNat:Nat):Int)=a by omega,show((b.toNat:Nat):Int)=b by omega]at this
 |[a,b,c],_,n,p =>
  have H:2<=a/\a<=24:=n 0 zm;have o:2<=b/\b<=24:=n 1 zm;have r:2<=c/\c<=24:=n 2 zm;have P:a*b*c<=7:=by rw[Int.mul_assoc];simpa[C5]using p
  have d:2*2<=a*b:=qC H.1 o.1 om om;have q:a*b*2<=a*b*c:=pN r.1 om;omega
 |_ :: _ :: _ :: _ :: _,T,_,_=>simp at T
theorem ce8{l:LI}(h:d7 l=true)(H:ord l<=7):(atL l).length<=48:=by
 have:=jp5 h H;unfold cm3 at this;rw[ow,decide_eq_true_eq]at this;exact this.1
theorem c66{l:LI}(h:d7 l=true)(g:ord l<=7){a:LN}(H:a∈atL l):1<=a.length/\a.length<=7/\∀x∈a,x<ord l:=by
 have:=jp5 h g;unfold cm3 at this;rw[ow,oC]at this;have:=this.2 a H;unfold jp4 at this;simpa[oC]using this
def N0:LN->LN->Int
 |[],[]=>0
 |[],_ :: _=>-1
 |_ :: _,[]=>1
 |a :: r,b :: s=>if a<b then -1 else if b<a then 1 else N0 r s
def Q2(a b:LN):Int:=if a.length=b.length then N0 a b else(a.length:Int)-(b.length:Int)
theorem df6:∀a b,N0 a b = - N0 b a
 |[],[]=>rfl
 |[],_ :: _=>rfl
 |_ :: _,[]=>rfl
 |a :: r,b :: s=>by
  unfold N0
  rw[df6 r s]
  by_cases o:a<b<;>by_cases h:b<a
  . omega
  . simp[o,h]
  . simp[o,h]
  . simp[o,h]
theorem jd5:∀a b,N0 a b=0->a=b
 |[],[],_=>rfl
 |[],_ :: _,h=>by simp[N0]at h
 |_ :: _,[],h=>by simp[N0]at h
 | a :: r,b :: s,h=>by
  unfold N0 at h
  by_cases o:a<b
  . rw[if_pos o]at h;omega
  . rw[if_neg o]at h
    by_cases H:b<a
    . rw[if_pos H]at h;omega
    . rw[if_neg H]at h
      rw[jd5 r s h,show a=b by omega]
theorem d26:∀a b c,N0 a b<=0->N0 b c<=0->N0 a c<=0
 |[],_,[],_,_=>by simp[N0]
 |[],_,_ :: _,_,_=>by simp[N0]
 |_ :: _,[],_,h,_=>by simp[N0]at h
 |_ :: _,_ :: _,[],_,h=>by simp[N0]at h
 | a :: r,b :: s,c :: t,h1,h2=>by
  unfold N0 at h1 h2|-
  by_cases d:a<b
  . by_cases p:c<b
    . rw[if_neg om,if_pos p]at h2;omega
    . rw[if_pos om];omega
  . rw[if_neg d]at h1
    by_cases P:b<a
    . rw[if_pos P]at h1;omega
    . rw[if_neg P]at h1
      have e:a=b:=om
      subst e
      by_cases p:a<c
      . rw[if_pos p];omega
      . rw[if_neg p]at h2|-
        by_cases i:c<a
        . rw[if_pos i]at h2;omega
        . rw[if_neg i]at h2|-
          exact d26 r s t h1 h2
theorem bf0(a b:LN):Q2 a b = - Q2 b a:=by
 unfold Q2;by_cases h:a.length=b.length;rw[if_pos h,if_pos h.symm];exact df6 a b;rw[if_neg h,if_neg (fun e=>h e.symm)];omega
theorem jd4{a b:LN}(h:Q2 a b=0):a=b:=by
 unfold Q2 at h;by_cases e:a.length=b.length;rw[if_pos e]at h;exact jd5 a b h;rw[if_neg e]at h;omega
theorem bp9{a b c:LN}(o:Q2 a b<=0)(r:Q2 b c<=0):Q2 a c<=0:=by
 unfold Q2 at o r|-;by_cases E:a.length=b.length<;>by_cases e:b.length=c.length;rw[if_pos E]at o;rw[if_pos e]at r;rw[if_pos om];exact d26 a b c o r;rw[if_neg e]at r;rw[if_neg om];omega;rw[if_neg E]at o;rw[if_neg om];omega;rw[if_neg E]at o;rw[if_neg e]at r;by_cases V:a.length=c.length;omega;rw[if_neg V];omega
theorem jq7(a:LN):Q2 a a=0:=by have:=bf0 a a;omega
def leA(a b:LN):Prop:=Q2 a b<=0
theorem l85{a b:LN}(o:leA a b)(r:leA b a):a=b:=by
 unfold leA at o r;rw[bf0]at r;exact jd4 om
theorem d79:∀{A B:List (LN)},A.Perm B->A.Pairwise leA->B.Pairwise leA->A=B
 |[],B,h,_,_=>by rw[List.nil_perm.1 h]
 |a :: A,[],h,_,_=>by have:=h.length_eq;simp at this
 | a :: A,b :: B,h,hA,hB=>by
  rw[qj]at hA hB
  have e:a=b:=by
   have o:a∈b :: B:=h.subset zm;have r:b∈a :: A:=h.symm.subset zm;rw[pM]at o r;rcases o with o|o
   . exact o
   . rcases r with r|r
     . exact r.symm
     . exact l85 (hA.1 b r) (hB.1 a o)
  subst e
  rw[d79 ((List.perm_cons a).1 h) hA.2 hB.2]
def U0(x:LN)(o:List (LN)):Nat->Nat
 |0=>0
 |k+1=>if Q2 x (o.getD k [])<0 then U0 x o k else k+1
def c87(x:LN)(o:List (LN)):List (LN):=o.take (U0 x o o.length)++[x]++o.drop (U0 x o o.length)
def isA(L:List (LN)):List (LN):=L.foldl (fun o x=>c87 x o) []
theorem cx0(L:List (LN))(x:LN):isA (L++[x])=c87 x (isA L):=by unfold isA;rw[oH];rfl
theorem jg3(x:LN)(o:List (LN)):∀k,U0 x o k<=k
 |0=>oc _
 |k+1=>by
  have:=jg3 x o k
  unfold U0;split<;>omega
theorem dh9(x:LN)(o:List (LN)):∀k,k<=o.length->(∀j,U0 x o k<=j->j<k->Q2 x (o.getD j [])<0)/\(0<U0 x o k->¬Q2 x (o.getD (U0 x o k-1) [])<0)
 |0,_=>⟨fun j H r=>om,fun h=>by simp[U0]at h⟩
 | k+1,hk=>by
  obtain⟨H,r⟩:=dh9 x o k om
  by_cases h:Q2 x (o.getD k [])<0
  . have e:U0 x o (k+1)=U0 x o k:=by rw[U0,if_pos h]
    rw[e]
    refine⟨fun j p P=>?_,r⟩
    by_cases q:j=k
    . rw[q];exact h
    . exact H j p om
  . have e:U0 x o (k+1)=k+1:=by rw[U0,if_neg h]
    rw[e]
    exact⟨fun j p P=>om,fun _=>by simpa using h⟩
theorem jt8(x:LN)(o:List (LN)):(c87 x o).Perm (o++[x]):=by
 unfold c87;have h:(o.take (U0 x o o.length)++[x]++o.drop (U0 x o o.length)).Perm (o.take (U0 x o o.length)++(o.drop (U0 x o o.length)++[x])):=by
  rw[pr];exact List.Perm.append_left _ (List.perm_append_comm)
 rw[<-pr,qJ]at h;exact h
theorem c88(L:List (LN)):(isA L).Perm L:=by
 have:∀n,n<=L.length->(isA (L.take n)).Perm (L.take n):=by
  intro n;induction n with
  |zero=>intro _;simp[isA]
  |succ n ih =>
   intro H;rw[pa om,cx0];exact(jt8 _ _).trans ((ih om).append_right _)
 have h:=this L.length (oc _);rwa [oz]at h
theorem ln3{o:List (LN)}(h:o.Pairwise leA){i j:Nat}(I:i<j)(H:j<o.length):leA (o.getD i []) (o.getD j []):=by
 have:=qg.1 h i j om H I;simpa[List.getD,show i<o.length by omega,H]using this
theorem j89(x:LN){o:List (LN)}(h:o.Pairwise leA):(c87 x o).Pairwise leA:=by
 obtain⟨U,r⟩:=dh9 x o o.length (oc _);have L:=jg3 x o o.length;unfold c87;generalize U0 x o o.length=k at U r L;have I:∀y∈o.drop k,leA x y:=by
  intro y H;obtain⟨i,J,rfl⟩:=px H;rw[pc]at J;have:=U (k+i) om om;unfold leA;simp only[List.getElem_drop];simp only[List.getD,List.getElem?_eq_getElem (show k+i<o.length by omega),Option.getD_some]at this;omega
 have l:∀y∈o.take k,leA y x:=by
  intro y H;obtain⟨i,J,rfl⟩:=px H;rw[ol]at J;have K:0<k:=om;have q:=r K;have Q:leA (o.getD (k-1) []) x:=by unfold leA;rw[bf0];omega
  by_cases e:i=k-1;subst e;simp only[List.getElem_take];simpa[List.getD,show k-1<o.length by omega]using Q;have f:=ln3 h (show i<k-1 by omega) om;have:=bp9 f Q;simp only[List.getElem_take];simpa[leA,List.getD,show i<o.length by omega]using this
 rw[pr,qM];refine⟨h.sublist (List.take_sublist _ _),?_,?_⟩;rw[qL,qj];exact⟨I,h.sublist (List.drop_sublist _ _)⟩;intro a A b C;rw[qL,pM]at C;rcases C with rfl|C
 exact l a A;exact bp9 (l a A) (I b C)
theorem jm0(L:List (LN)):(isA L).Pairwise leA:=by
 have:∀n,n<=L.length->(isA (L.take n)).Pairwise leA:=by
  intro n;induction n with
  |zero=>intro _;simp[isA]
  |succ n ih =>
   intro H;rw[pa om,cx0];exact j89 _ (ih om)
 have h:=this L.length (oc _);rwa [oz]at h
theorem ja9{L B:List (LN)}(h:B.Perm L)(S:B.Pairwise leA):B=isA L:=d79 (h.trans (c88 L).symm) S (jm0 L)
def atS(l:LI):List (LN):=isA (atL l)
theorem br5:(atS l).length=(atL l).length:=(c88 _).length_eq
theorem cm4{l:LI}{a:LN}(h:a∈atS l):a∈atL l:=(c88 _).subset h
end Go.Zz
