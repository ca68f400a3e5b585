/- Whether a map keeps sums: of the program and of the reference. -/
import Derived.Test.YtjhoafjeopcheaaGreatGr5
import Derived.Deep.RegionLaw
set_option linter.all false
set_option maxHeartbeats 4000000
set_option maxRecDepth 8000
namespace Go.Zz
open Go.RowKit Go.Proofs
variable(v:Value)(l:LI)(u:Value)(g h t:LI)(x:Nat)(vL vM:Value)(L M:LN)(z:Nat){b:Bool}{r R n i:Nat}{c:Array Value}{B e W w:World}{X Y:LI}
theorem zz21{P:Prop}(h:P:=by refine zd fun W E=>?_;go_wp2_with fail;go_roundw;exact⟨q+1,om,om,zg,s.trans E,zh fun K H r=>by by_cases e:K=q;(subst e;exact k.o);exact H4.o K H om⟩;exact zm1):P:=h
theorem zz92{P:Prop}(h:P:=by have hs:j=L.length:=om;go_wp2_with fail;go_roundw;exact⟨i+1,om,zg,E,zh fun G H C I K r Y=>by by_cases e:G=i;(subst e;exact H2.o C r om I K);exact H1.o G om C I K r Y⟩;exact zm1):P:=h
theorem zz105{P:Prop}(h:P:=by have hk:q=L.length:=om;subst hk;go_wp2_with fail;go_roundw;exact⟨p+1,om,zg,E,zh fun I H=>by by_cases e:I=p;(subst e;exact H4.o);exact H3.o I om⟩;exact zm1):P:=h
theorem zz111{P:Prop}(h:P:=by go_wp2_with fail;go_roundw;exact⟨j+1,om,om,zg,E,zh fun C H r I K Y=>by by_cases e:C=j;(subst e;exact H3.o I om K);exact H2.o C H om I K Y⟩;exact zm1):P:=h
theorem di2(w:World)(hv:c8 w v g)(hu:c8 w u h)(x:Hid (d7 g=true))(Hh:Hid (d7 h=true))(hL:c8 w vL (b9 L))(hM:c8 w vM (b9 M))(R:∀y∈L,y<24)(m:∀y∈M,y<24)(hw:L.length<=M.length)(hl:L.length<=24):Calls Tryz.prog 204 #[.agg #[v],.agg #[u],vL,vM] w (RE w (.bool (kpB g h L M))):=by
 obtain⟨B,b⟩:=nq ((w.alloc (.cells #[v] 42)).alloc (.cells #[u] 42));have F:Ext w B:=by rw[b];exact((er _).alloc _).alloc _
 have B0:Blk B w.heap.size 42 #[v]:=by rw[b];exact(oq _ _ _).alloc _
 have B1:Blk B (w.heap.size+1) 42 #[u]:=by rw[b];simpa using Blk.new (w.alloc (.cells #[v] 42)) 42 #[u]
 have b0:=B0.atc 0 rfl;have b1:=B1.atc 0 rfl;have HV:=zh (fun W (D:Ext B W)=>hv.ext (F.trans D));have HU:=zh (fun W (D:Ext B W)=>hu.ext (F.trans D));obtain⟨aL,cL,aa,rfl,hb,f⟩:=hL.nats;have ho:=j2 (c:=cL) elI szI hb;obtain⟨aM,cM,ab,rfl,hc,n⟩:=hM.nats;have hx:=j2 (c:=cM) elI szI hc;have E:=er B;have Z:=zh b;clear hb hc hL hM hv hu b B0 B1;have ob:=l8 x.o;go_in;go_wp2_with fail;rw[<-Z.o];go_loopw [15] (fun V wr=>∃i:Nat,i<=L.length/\V=vi i/\Ext B wr/\Hid (∀G,G<i->∀j p q,G<=j->j<L.length->p<L.length->p<=q->q<L.length->kEq g h L M G j p q=true)) (fun V _=>L.length-(intOf V).toNat);exact⟨0,om,rfl,E,zh om⟩
 clear E;obtain⟨i,J,rfl,E,H1⟩:=hrel;by_cases hit:i<L.length
 . go_wp2_with fail;go_loopw [10] (fun t N=>∃j:Nat,i<=j/\j<=L.length/\t=vi j/\Ext B N/\Hid (∀C,i<=C->C<j->∀p q,p<L.length->p<=q->q<L.length->kEq g h L M i C p q=true)) (fun t _=>L.length-(intOf t).toNat);exact⟨i,om,om,rfl,E,zh om⟩;case round =>
    clear E;obtain⟨j,hh,hj,rfl,E,H2⟩:=hrel;by_cases z:j<L.length
    . go_wp2_with fail;go_loopw [27] (fun pv N=>∃p:Nat,p<=L.length/\pv=vi p/\Ext B N/\Hid (∀I,I<p->∀q,I<=q->q<L.length->kEq g h L M i j I q=true)) (fun pv _=>L.length-(intOf pv).toNat);exact⟨0,om,rfl,E,zh om⟩;case round =>
       clear E;obtain⟨p,hp,rfl,E,H3⟩:=hrel;by_cases hy:p<L.length
       . go_wp2_with fail;go_loopw [12] (fun qv N=>∃q:Nat,p<=q/\q<=L.length/\qv=vi q/\Ext B N/\Hid (∀K,p<=K->K<q->kEq g h L M i j p K=true)) (fun qv _=>L.length-(intOf qv).toNat);exact⟨p,om,om,rfl,E,zh om⟩;case round =>
          clear E;obtain⟨q,hn,hq,rfl,E,H4⟩:=hrel;by_cases ht:q<L.length
          . have ha:p<L.length:=om;have hf:i<M.length:=om;have hg:j<M.length:=om;have hm:p<M.length:=om;have he:q<M.length:=om;have cc:=fun U=>f i _ hit (F.trans (E.trans (c9 wr U)));have ca:=fun U=>f j _ z (F.trans (E.trans (c9 wr U)));have cp:=fun U=>f p _ ha (F.trans (E.trans (c9 wr U)));have cb:=fun U=>f q _ ht (F.trans (E.trans (c9 wr U)));have ci:=fun U=>n i _ hf (F.trans (E.trans (c9 wr U)));have cj:=fun U=>n j _ hg (F.trans (E.trans (c9 wr U)));have cd:=fun U=>n p _ hm (F.trans (E.trans (c9 wr U)));have cq:=fun U=>n q _ he (F.trans (E.trans (c9 wr U)));have x0:=fun U=>b0 _ (E.trans (c9 wr U));have x1:=fun U=>b1 _ (E.trans (c9 wr U));have ti:=R _ (m7 hit);have tj:=R _ (m7 z);have tb:=R _ (m7 ha);have tq:=R _ (m7 ht);have ta:=m _ (m7 hf);have td:=m _ (m7 hg);have tp:=m _ (m7 hm);have tc:=m _ (m7 he);have O:=fun U=>O7 _ _ (d5 L i) (d5 L j) _ (HV.o _ (E.trans (c9 wr U))) x om om;have A:=fun U=>O7 _ _ (d5 L p) (d5 L q) _ (HV.o _ (E.trans (c9 wr U))) x om om;have d:=fun U=>O7 _ _ (d5 M i) (d5 M j) _ (HU.o _ (E.trans (c9 wr U))) Hh om om;have X:=fun U=>O7 _ _ (d5 M p) (d5 M q) _ (HU.o _ (E.trans (c9 wr U))) Hh om om;have s:=E;clear E;have E:=er wr;cases S:(((j9 g (d5 L i) (d5 L j):Nat):Int) == ((j9 g (d5 L p) (d5 L q):Nat):Int))
            . have k:Hid (kEq g h L M i j p q=true):=zh (by unfold kEq;rw[S];rfl);go_wp2_with fail;refine wl E ?_;(repeat(go_big_quiet_step(first|(go_at_call 271;first|with_reducible exact oa (O _)|with_reducible exact oa (A _)|with_reducible exact oa (d _)|with_reducible exact oa (X _)))));exact zz21
            . cases e2:(((j9 h (d5 M i) (d5 M j):Nat):Int) != ((j9 h (d5 M p) (d5 M q):Nat):Int))
              . have k:Hid (kEq g h L M i j p q=true):=zh (by unfold kEq;rw[S,e2];rfl);go_wp2_with fail;refine wl E ?_;(repeat(go_big_quiet_step(first|(go_at_call 271;first|with_reducible exact oa (O _)|with_reducible exact oa (A _)|with_reducible exact oa (d _)|with_reducible exact oa (X _)))));exact zz21
              . have k:Hid (kpB g h L M=false):=zh (ju7 hh z hn ht (by unfold kEq;rw[S,e2];rfl));go_wp2_with fail;refine wl E ?_;(repeat(go_big_quiet_step(first|(go_at_call 271;first|with_reducible exact oa (O _)|with_reducible exact oa (A _)|with_reducible exact oa (d _)|with_reducible exact oa (X _)))));refine zd fun W E=>?_;go_wp2_with fail;go_ret;exact⟨j1 k.o.symm,F.trans (s.trans E)⟩
          . exact zz105
       . have ha:p=L.length:=om;exact zz111
    . exact zz92
 have hr:i=L.length:=om;have k:Hid (kpB g h L M=true):=zh (ll0 fun G H=>H1.o G om);go_wp2_with fail;go_ret;exact⟨j1 k.o.symm,F.trans E⟩
theorem d70(w:World)(hv:c8 w v g)(hu:c8 w u h)(x:Hid (d7 g=true))(Hh:Hid (d7 h=true))(hL:c8 w vL (b9 L))(hM:c8 w vM (b9 M))(R:∀y∈L,y<24)(m:∀y∈M,y<24)(hw:L.length<=M.length)(hl:L.length<=24):Calls Tryz.prog 293 #[.agg #[v],.agg #[u],vL,vM] w (RE w (.bool (kpB g h L M))):=by
 obtain⟨B,b⟩:=nq ((w.alloc (.cells #[v] 42)).alloc (.cells #[u] 42));have F:Ext w B:=by rw[b];exact((er _).alloc _).alloc _
 have B0:Blk B w.heap.size 42 #[v]:=by rw[b];exact(oq _ _ _).alloc _
 have B1:Blk B (w.heap.size+1) 42 #[u]:=by rw[b];simpa using Blk.new (w.alloc (.cells #[v] 42)) 42 #[u]
 have b0:=B0.atc 0 rfl;have b1:=B1.atc 0 rfl;have HV:=zh (fun W (D:Ext B W)=>hv.ext (F.trans D));have HU:=zh (fun W (D:Ext B W)=>hu.ext (F.trans D));obtain⟨aL,cL,aa,rfl,hb,f⟩:=hL.nats;have ho:=j2 (c:=cL) elI szI hb;obtain⟨aM,cM,ab,rfl,hc,n⟩:=hM.nats;have hx:=j2 (c:=cM) elI szI hc;have E:=er B;have Z:=zh b;clear hb hc hL hM hv hu b B0 B1;have ob:=l8 x.o;go_in;go_wp2_with fail;rw[<-Z.o];go_loopw [9] (fun V wr=>∃i:Nat,i<=L.length/\V=vi i/\Ext B wr/\Hid (∀G,G<i->∀j p q,G<=j->j<L.length->p<(G+1)->p<=q->q<L.length->kEq g h L M G j p q=true)) (fun V _=>L.length-(intOf V).toNat);exact⟨0,om,rfl,E,zh om⟩
 clear E;obtain⟨i,J,rfl,E,H1⟩:=hrel;by_cases hit:i<L.length
 . go_wp2_with fail;go_loopw [10] (fun t N=>∃j:Nat,i<=j/\j<=L.length/\t=vi j/\Ext B N/\Hid (∀C,i<=C->C<j->∀p q,p<(i+1)->p<=q->q<L.length->kEq g h L M i C p q=true)) (fun t _=>L.length-(intOf t).toNat);exact⟨i,om,om,rfl,E,zh om⟩;case round =>
    clear E;obtain⟨j,hh,hj,rfl,E,H2⟩:=hrel;by_cases z:j<L.length
    . go_wp2_with fail;go_loopw [11] (fun pv N=>∃p:Nat,p<=(i+1)/\pv=vi p/\Ext B N/\Hid (∀I,I<p->∀q,I<=q->q<L.length->kEq g h L M i j I q=true)) (fun pv _=>(i+1)-(intOf pv).toNat);exact⟨0,om,rfl,E,zh om⟩;case round =>
       clear E;obtain⟨p,hp,rfl,E,H3⟩:=hrel;by_cases hy:p<(i+1)
       . go_wp2_with fail;go_loopw [12] (fun qv N=>∃q:Nat,p<=q/\q<=L.length/\qv=vi q/\Ext B N/\Hid (∀K,p<=K->K<q->kEq g h L M i j p K=true)) (fun qv _=>L.length-(intOf qv).toNat);exact⟨p,om,om,rfl,E,zh om⟩;case round =>
          clear E;obtain⟨q,hn,hq,rfl,E,H4⟩:=hrel;by_cases ht:q<L.length
          . have ha:p<L.length:=om;have hf:i<M.length:=om;have hg:j<M.length:=om;have hm:p<M.length:=om;have he:q<M.length:=om;have cc:=fun U=>f i _ hit (F.trans (E.trans (c9 wr U)));have ca:=fun U=>f j _ z (F.trans (E.trans (c9 wr U)));have cp:=fun U=>f p _ ha (F.trans (E.trans (c9 wr U)));have cb:=fun U=>f q _ ht (F.trans (E.trans (c9 wr U)));have ci:=fun U=>n i _ hf (F.trans (E.trans (c9 wr U)));have cj:=fun U=>n j _ hg (F.trans (E.trans (c9 wr U)));have cd:=fun U=>n p _ hm (F.trans (E.trans (c9 wr U)));have cq:=fun U=>n q _ he (F.trans (E.trans (c9 wr U)));have x0:=fun U=>b0 _ (E.trans (c9 wr U));have x1:=fun U=>b1 _ (E.trans (c9 wr U));have ti:=R _ (m7 hit);have tj:=R _ (m7 z);have tb:=R _ (m7 ha);have tq:=R _ (m7 ht);have ta:=m _ (m7 hf);have td:=m _ (m7 hg);have tp:=m _ (m7 hm);have tc:=m _ (m7 he);have O:=fun U=>G8 _ _ (d5 L i) (d5 L j) _ (HV.o _ (E.trans (c9 wr U))) x om om;have A:=fun U=>G8 _ _ (d5 L p) (d5 L q) _ (HV.o _ (E.trans (c9 wr U))) x om om;have d:=fun U=>G8 _ _ (d5 M i) (d5 M j) _ (HU.o _ (E.trans (c9 wr U))) Hh om om;have X:=fun U=>G8 _ _ (d5 M p) (d5 M q) _ (HU.o _ (E.trans (c9 wr U))) Hh om om;have s:=E;clear E;have E:=er wr;cases S:(((j9 g (d5 L i) (d5 L j):Nat):Int) == ((j9 g (d5 L p) (d5 L q):Nat):Int))
            . have k:Hid (kEq g h L M i j p q=true):=zh (by unfold kEq;rw[S];rfl);go_wp2_with fail;refine wl E ?_;(repeat(go_big_quiet_step(first|(go_at_call 220;first|with_reducible exact oa (O _)|with_reducible exact oa (A _)|with_reducible exact oa (d _)|with_reducible exact oa (X _)))));exact zz21
            . cases e2:(((j9 h (d5 M i) (d5 M j):Nat):Int) != ((j9 h (d5 M p) (d5 M q):Nat):Int))
              . have k:Hid (kEq g h L M i j p q=true):=zh (by unfold kEq;rw[S,e2];rfl);go_wp2_with fail;refine wl E ?_;(repeat(go_big_quiet_step(first|(go_at_call 220;first|with_reducible exact oa (O _)|with_reducible exact oa (A _)|with_reducible exact oa (d _)|with_reducible exact oa (X _)))));exact zz21
              . have k:Hid (kpB g h L M=false):=zh (ju7 hh z hn ht (by unfold kEq;rw[S,e2];rfl));go_wp2_with fail;refine wl E ?_;(repeat(go_big_quiet_step(first|(go_at_call 220;first|with_reducible exact oa (O _)|with_reducible exact oa (A _)|with_reducible exact oa (d _)|with_reducible exact oa (X _)))));refine zd fun W E=>?_;go_wp2_with fail;go_ret;exact⟨j1 k.o.symm,F.trans (s.trans E)⟩
          . exact zz105
       . have ha:p=(i+1):=om;exact zz111
    . exact zz92
 have hr:i=L.length:=om;have k:Hid (kpB g h L M=true):=zh (l78 fun G H=>H1.o G om);go_wp2_with fail;go_ret;exact⟨j1 k.o.symm,F.trans E⟩
theorem bo8(a:Nat)(w:World)(h:c8 w v l)(R:Hid (d7 l=true))(A:a<2^24):Calls Tryz.prog 239 #[.agg #[v],vi a] w (RE w (vi (genF l a))):=by
 obtain⟨B,Z,F,C,H,E,z⟩:=m04 42 h;clear h;have g:=c40 R.o a;have O:=dc4 R.o a;have X:=zh (cw7 l a);go_in;go_wp2_with fail;rw[<-Z.o];go_loopw [5] (fun V wr=>∃h:Nat,Sub 1 h/\Sub h (genF l a)/\V=vi h/\Ext B wr) (fun V _=>16777216-(intOf V).toNat);exact⟨1,Sub.refl 1,X.o,rfl,E⟩
 clear E;obtain⟨h,U,r,rfl,E⟩:=hrel;have K:=fun u=>C _ (c9 B u);have c:=d83 g r;have s:=H7 R.o h a;have y:=H7 R.o h (V0 l a);have Y:=R5 (a:=h) (b:=j7 l h a) om om;have f:h ||| j7 l h a<2^24:=ox c s
 have i:=R5 (a:=h ||| j7 l h a) (b:=j7 l h (V0 l a)) om om;have n:=jt6 R.o r;have S:=l68 l a h;have d:=jt5 U r;have I:=d83 g n;rw[show h ||| j7 l h a ||| j7 l h (V0 l a)=d38 l a h from rfl]at i;generalize d38 l a h=N at i n S d I;have t:=zh U;have D:=zh r;have m:=zh S;have x:=zh n;have p:=zh d;clear U r S n d;by_cases q:N=h
 . have G:((N:Int) == (h:Int))=true:=(by simp[q]);have M:=zh q;clear q;go_wp2_with fail;refine wl E ?_;(repeat(go_big_quiet_step(first|(go_at_call 75;exact oa (J2 _ _ _ _ _ (H _ (c9 B _)) (R) (c) (A)))|(go_at_call 75;exact oa (J2 _ _ _ _ _ (H _ (c9 B _)) (R) (c) (O)))|(go_at_call 294;exact oa (bi5 _ _ _ _ (H _ (c9 B _)) (R) (A))))));refine zd fun W E=>?_;go_wp2_with fail;go_ret;exact⟨o3 (by rw[<-p.o M.o]),F.trans E⟩
 have G:((N:Int) == (h:Int))=false:=zso;have L:=zh (c58 I m.o (fun e=>q e.symm)).1;clear q;go_wp2_with fail;refine wl E ?_;(repeat(go_big_quiet_step(first|(go_at_call 75;exact oa (J2 _ _ _ _ _ (H _ (c9 B _)) (R) (c) (A)))|(go_at_call 75;exact oa (J2 _ _ _ _ _ (H _ (c9 B _)) (R) (c) (O)))|(go_at_call 294;exact oa (bi5 _ _ _ _ (H _ (c9 B _)) (R) (A))))));refine zd fun W E=>?_;go_wp2_with fail;go_roundw;exact⟨N,t.o.trans m.o,x.o,rfl,E⟩;(simp[intOf];have:=L.o;omega)
theorem bo9(a:Nat)(w:World)(h:c8 w v l)(R:Hid (d7 l=true))(A:a<2^24):Calls Tryz.prog 212 #[.agg #[v],vi a] w (RE w (vi (genF l a))):=by
 obtain⟨B,Z,F,C,H,E,z⟩:=m04 42 h;clear h;have x:=C B E;have g:=c40 R.o a;have O:=zh (cw7 l a);have D:(1:Nat)<2^24:=om;have s:=H7 R.o 1 a;have i:=R5 (a:=1) (b:=j7 l 1 a) om om;go_in;go_wp2_with fail;rw[<-Z.o];go_wp2_with(first|(go_at_call 145;refine cx (E6 _ _ _ _ _ (H _ E) (R) (D) (A)) E fun W E=>?_));clear x s;go_loopw [5,6] (fun V J wr=>∃h:Nat,Sub 1 h/\Sub h (genF l a)/\V=vi h/\J=vi (grow l a h:Nat)/\Ext B wr) (fun V _ _=>16777216-(intOf V).toNat);exact⟨1,Sub.refl 1,O.o,rfl,by unfold grow;rw[<-i];rfl,E⟩
 clear E i;obtain⟨h,U,r,rfl,rfl,E⟩:=hrel;have x:=C _ E;have c:=d83 g r;have n:=l71 R.o r;have S:Sub h (grow l a h):=Sub.or_left _ _;have d:=l69 U r;have I:=d83 g n;generalize grow l a h=N at n S d I|-;have s:=H7 R.o N a;have i:=R5 (a:=N) (b:=j7 l N a) om om;have y:Hid (N ||| j7 l N a=grow l a N):=zh rfl;have t:=zh U;have K:=zh r;have m:=zh S;have u:=zh n;have p:=zh d;clear U r S n d;by_cases q:N=h
 . have G:((N:Int) != (h:Int))=false:=(by simp[q]);have M:=zh q;clear q;go_wp2_with fail;go_ret;exact⟨o3 (by rw[<-p.o M.o]),F.trans E⟩
 have G:((N:Int) != (h:Int))=true:=zso;have L:=zh (c58 I m.o (fun e=>q e.symm)).1;clear q;go_wp2_with(first|(go_at_call 145;refine cx (E6 _ _ _ _ _ (H _ E) (R) (I) (A)) E fun W E=>?_));go_roundw;exact⟨N,t.o.trans m.o,u.o,rfl,by rw[y.o],E⟩;(simp[intOf];have:=L.o;omega)
theorem c22(a:Int)(w:World)(h:c8 w v l):Calls Tryz.prog 319 #[.agg #[v],vi a] w (RE w (vi (c85 l a))):=by
 obtain⟨B,Z,F,C,H,E,t⟩:=m04 42 h;clear h;have x:=C B E;cases S:j0 l a
 . have N:=zh (dx3 (P5 S));go_in;go_wp2_with fail;rw[<-Z.o];go_wp2_with(first|(go_at_call 180;refine cx (F9 _ _ _ _ (H _ E)) E fun V E=>?_));go_ret;exact zz42
 obtain⟨n,rfl,p,r,Y⟩:=l7 S;by_cases U:n=0
 . subst U;have N:=zh (dx3 (J7 l));go_in;go_wp2_with fail;rw[<-Z.o];go_wp2_with(first|(go_at_call 180;refine cx (F9 _ _ _ _ (H _ E)) E fun V E=>?_));go_ret;exact⟨o3 (by have:=N.o;simp_all),F.trans E⟩
 have N:=zh (dh6 (Q4 S om));obtain⟨j,b,K,g⟩:=c90 U r;have I:((n:Int) == 0)=false:=zso;have R:=zh Y;have m:=bk7 Y (R1 n);have s:=K8 Y n (q7 l (R1 n));have q:=c40 Y (j6 l n (q7 l (R1 n)));clear Y U;go_in;go_wp2_with fail;rw[<-Z.o];go_wp2_with(first|(go_at_call 180;refine cx (F9 _ _ _ _ (H _ E)) E fun V E=>?_)|(go_at_call 195;refine(J1 n r _).mono ?_;rintro e G⟨y,rfl,X,z⟩;replace E:=E.trans z;obtain⟨A,L,D,rfl,d,f⟩:=X.ints.nats;have i:=j2 (c:=L) elI szI d;clear d;have k:=f 0 _ b (er _);rw[j]at k;have J:∀W,(Instr.indexAt 40 (.slice A (j3 n).length L) (vi 0)).run Tryz.prog W=.ok (.pointer (some (D 0))) W:=fun W=>i 0 W b));replace x:=fun u=>C _ (c9 B u);refine wl E ?_;(repeat(go_big_quiet_step(first|(go_at_call 315;exact oa (bi4 _ _ _ _ (H _ (c9 B _)) (R) (om)))|(go_at_call 196;exact oa (M8 _ _ _ _ _ (H _ (c9 B _)) (R) (r) (m)))|(go_at_call 196;exact oa (M8 _ _ _ _ _ (H _ (c9 B _)) (R) (q) (g)))|(go_at_call 239;exact oa (bo8 _ _ _ _ (H _ (c9 B _)) (R) (s))))));refine zd fun W E=>?_;go_wp2_with fail;go_ret;exact⟨o3 (by rw[N.o];rfl),F.trans E⟩
theorem di3(a:Nat)(S:a≠0)(A:a<2^24)(w:World):Calls Tryz.prog 287 #[vi a] w fun e W=>e=.returned (vi (R1 a:Int))/\w=W:=by
 obtain⟨-,-,L,f⟩:=c90 S A;have x:=zh L;clear L;go_in;go_wp2_with fail;go_loop [3] (fun i=>∃k:Nat,k<=R1 a/\(∀j,j<k->a.testBit j=false)/\i=vi k) (fun i=>24-(intOf i).toNat);exact⟨0,om,om,rfl⟩
 obtain⟨k,V,l,rfl⟩:=hrel;have H:=zh l;clear l;have s:=R0 (a:=a) (n:=k) om;have Z:=cl2 a k;cases C:a.testBit k
 . have h:shr a k%2=0:=by
    rw[pR,<-pD]at C;have:=of_decide_eq_false C;unfold shr;omega
   have d:b13 ((shr a k:Nat):Int) 1=0:=by rw[Z5 om,h];rfl
   have N:k≠R1 a:=by intro e;have:=x.o;rw[<-e,C]at this;cases this
   have b:=zh C
   clear C h
   go_wp2_with fail
   go_round
   case rel=>exact⟨k+1,om,fun j J=>by by_cases e:j=k;(subst e;exact b.o);exact H.o j om,zg⟩
   case measure=>exact zm1
 have h:shr a k%2=1:=by
  rw[pR,<-pD]at C;exact of_decide_eq_true C
 have d:b13 ((shr a k:Nat):Int) 1=1:=by rw[Z5 om,h];rfl
 have E:=zh (ll5 om H.o C);clear C h;go_wp2_with fail;go_ret;exact⟨o3 (by rw[E.o]),rfl⟩
theorem zz108{P:Prop}(h:P:=by go_ret;exact⟨rfl,rfl⟩):P:=h
theorem dx5(a x:Nat)(h:a<2^24)(K:x<=64)(w:World):Calls Tryz.prog 205 #[vi a,vi x] w fun e W=>e=.returned (.bool (a.testBit x))/\w=W:=by
 have s:=R0 (a:=a) (n:=x) K;have b:=b16 (a:=a) (n:=x) om K;go_in;go_wp2_with fail;exact zz108
theorem T2(a x:Nat)(h:a<2^24)(K:x<=64)(w:World)(C:a.testBit x=b):Calls Tryz.prog 205 #[vi a,vi x] w fun e W=>e=.returned (.bool b)/\w=W:=by
 subst C;exact dx5 a x h K w
theorem c41(x:Int)(w:World)(h:c8 w v l):Calls Tryz.prog 72 #[.agg #[v],vi x] w (RE w (.bool (M7 l x))):=by
 obtain⟨B,Z,F,C,H,E,s⟩:=m04 42 h;clear h;have O:=jh2 l;go_in;go_wp2_with fail;rw[<-Z.o];go_wp2_with(first|(go_at_call 153;refine cx (W2 _ _ _ (H _ E)) E fun W E=>?_)|(go_at_call 168;refine(H8 _ _ _ _).mono ?_;rintro e W⟨rfl,rfl⟩));go_ret;exact⟨rfl,F.trans E⟩
theorem db9(x:Int)(w:World)(h:c8 w v l)(C:M7 l x=b):Calls Tryz.prog 72 #[.agg #[v],vi x] w (RE w (.bool b)):=by
 subst C;exact c41 v l x w h
theorem ba4(w:World)(h:c8 w v l):Calls Tryz.prog 142 #[.agg #[v]] w (RE w (vi (bp0 l))):=by
 obtain⟨B,Z,F,C,H,E,s⟩:=m04 42 h;clear h;cases Y:d7 l
 . have O:=zh (d52 Y);go_in;go_wp2_with fail;rw[<-Z.o];go_wp2_with(first|(go_at_call 52;refine cx (C4 _ _ _ (H _ E)) E fun e E=>?_));go_ret;exact⟨o3 O.o.symm,F.trans E⟩
 have O:=zh (bi6 Y);have R:=zh Y;go_in;go_wp2_with fail;rw[<-Z.o];go_wp2_with(first|(go_at_call 52;refine cx (C4 _ _ _ (H _ E)) E fun e E=>?_)|(go_at_call 103;refine cx (o4 _ _ _ (H _ E) (R)) E fun e E=>?_));go_ret;exact⟨o3 O.o.symm,F.trans E⟩
theorem zz56{P:Prop}(h:P:=by go_in;go_wp2_with fail;rw[<-Z.o];go_wp2_with(first|(go_at_call 142;refine cx (ba4 _ _ _ (H _ E)) E fun e E=>?_));go_ret;exact⟨j1 (by rw[u.o]),F.trans E⟩):P:=h
theorem c89(x:Int)(w:World)(h:c8 w v l):Calls Tryz.prog 53 #[.agg #[v],vi x] w (RE w (.bool (M7 l x))):=by
 obtain⟨B,Z,F,C,H,E,s⟩:=m04 42 h;clear h;have O:=jh2 l;by_cases S:0<=x;by_cases U:x<bp0 l;have u:Hid (M7 l x=true):=zh (V2.2 om);exact zz56;have u:Hid (M7 l x=false):=zh (c86.2 om);have i:decide (x<bp0 l)=false:=zso;exact zz56;have u:Hid (M7 l x=false):=zh (c86.2 om);have f:decide (0<=x)=false:=zso;exact zz56
theorem be0(x:Int)(w:World)(h:c8 w v l)(C:M7 l x=b):Calls Tryz.prog 53 #[.agg #[v],vi x] w (RE w (.bool b)):=by
 subst C;exact c89 v l x w h
theorem zz74{P:Prop}(h:P:=by go_wp2_with fail;refine wl E ?_;(repeat(go_big_quiet_step(first|(go_at_call 53;with_reducible exact oa (i _)))));refine zd fun W E=>?_;go_wp2_with fail;exact br (.tuple #[vi 0,.bool false]) ⟨by rw[N.o.1,N.o.2],F.trans (q.trans E)⟩):P:=h
theorem ca7(J:Value)(X:LI)(w:World)(h:c8 w v l)(z:c8 w J X):Calls Tryz.prog 292 #[.agg #[v],J] w (RE w (.tuple #[vi (soV l X),.bool (soB l X)])):=by
 obtain⟨B,Z,F,C,H,E,s⟩:=m04 42 h;clear h;obtain⟨p,c,r,rfl,hc,d,L⟩:=z.op;have S:=j2 (c:=c) elI szI d;clear d z;go_in;go_wp2_with fail;rw[<-Z.o];go_loopw [6,7] (fun O G wr=>∃(k a:Nat),k<=X.length/\G=vi k/\O=vi a/\a<2^24/\Ext B wr/\Hid (soG l X 0=soG l (X.drop k) a)) (fun _ G _=>X.length-(intOf G).toNat);exact⟨0,0,om,rfl,rfl,by decide,E,zh rfl⟩
 clear E;obtain⟨k,a,V,rfl,rfl,M,E,x⟩:=hrel;by_cases U:k<X.length
 . have hd:=c77 X k U;have g:=fun I=>L k _ U (F.trans (E.trans (c9 wr I)));have kb:=fun I=>C _ (E.trans (c9 wr I));have i:=fun I=>c89 v l (nth X k) (Lat wr I) (H _ (E.trans (c9 wr I)));have q:=E;clear E;have E:=er wr;cases b:M7 l (nth X k);have N:Hid (soB l X=false/\soV l X=0):=zh (d78 (by rw[x.o,hd,ji2 b]));rw[b]at i;clear hd b;exact zz74;rw[b]at i;obtain⟨n,m,ho,Y⟩:=b94 b;have hf:=l8 Y;have hj:∀W,Ext wr W->W.cell? (r k)=some (vi (n:Int)):=fun W D=>(by rw[<-m];exact L k _ U (F.trans (q.trans D)));rw[m]at hd b i g;have hi:=R0 (a:=a) (n:=n) om;have A:=b16 (a:=a) (n:=n) om om;have he:=o6 (n:=n) om;have hw:=bc9 (n:=n) om;cases y:a.testBit n
   . rw[y]at A;have N:Hid (soG l X 0=soG l (X.drop (k+1)) (a ||| 2^n)):=zh (by rw[x.o,hd,d77 b y]);have j:Hid (((a:Int)+((pw n:Nat):Int))=((a ||| 2^n:Nat):Int)):=zh (by rw[<-lh5 y,jn2];simp);have R:a ||| 2^n<2^24:=ox M (oJ om om)
     clear hd b y Y m;go_wp2_with fail;refine wl E ?_;(repeat(go_big_quiet_step(first|(go_at_call 53;with_reducible exact oa (i _)))));refine zd fun W E=>?_;go_wp2_with fail;go_roundw;exact⟨k+1,a ||| 2^n,om,zg,by rw[j.o],R,q.trans E,N⟩;exact zm1
   rw[y]at A;have N:Hid (soB l X=false/\soV l X=0):=zh (d78 (by rw[x.o,hd,dd9 y]));clear hd b y Y m;exact zz74
 have K:k=X.length:=om;have N:Hid (soB l X=d7 l/\soV l X=(a:Int)):=zh (ji3 (by rw[x.o,K,qi];rfl));clear K;go_wp2_with(refine cm (C4 _ _ _ (H _ E)) fun e f=>?_;replace E:=E.trans f);exact br (.tuple #[vi a,.bool (d7 l)]) ⟨by rw[N.o.1,N.o.2],F.trans E⟩
theorem jz3(vX vY:Value)(X Y:LI)(w:World)(N:c8 w v g)(A:c8 w u h)(y:c8 w vX X)(n:c8 w vY Y):Calls Tryz.prog 339 #[.agg #[v],.agg #[u],vX,vY] w (RE w (.bool (bi1 g h X Y))):=by
 obtain⟨B,m⟩:=nq ((w.alloc (.cells #[v] 42)).alloc (.cells #[u] 42));have F:Ext w B:=by rw[m];exact((er _).alloc _).alloc _
 have B0:Blk B w.heap.size 42 #[v]:=by rw[m];exact(oq _ _ _).alloc _
 have t:Blk B (w.heap.size+1) 42 #[u]:=by rw[m];simpa using Blk.new (w.alloc (.cells #[v] 42)) 42 #[u]
 have b0:=B0.atc 0 rfl;have b1:=t.atc 0 rfl;have HV:=zh (fun W (D:Ext B W)=>N.ext (F.trans D));have p:=zh (fun W (D:Ext B W)=>A.ext (F.trans D));have E:=er B;have Z:=zh m;clear N A m B0 t;have HX:=zh (fun W (D:Ext B W)=>y.ext (F.trans D));obtain⟨aX,cX,-,rfl,hc,-,-⟩:=y.op;obtain⟨ao,c,ar,rfl,hn,r,hl⟩:=n.op;have ha:=j2 (c:=c) elI szI r;clear r y n;go_in;go_wp2_with fail;rw[<-Z.o];refine cm (ca7 _ _ _ _ _ (HV.o _ E) (HX.o _ E)) fun G z=>?_;replace E:=E.trans z;clear z;go_wp2_with fail;go_loopw [11] (fun i wr=>∃k:Nat,k<=Y.length/\i=vi k/\Ext B wr/\Hid (∀j,j<k->M7 h (nth Y j)=true)) (fun i _=>Y.length-(intOf i).toNat);exact⟨0,om,rfl,E,zh om⟩
 clear E;obtain⟨k,V,rfl,E,O⟩:=hrel;by_cases U:k<Y.length
 . have hb:=fun J=>hl k _ U (F.trans (E.trans (c9 wr J)));have kb:=fun J=>b1 _ (E.trans (c9 wr J));have I:=fun J=>c89 u h (nth Y k) (Lat wr J) (p.o _ (E.trans (c9 wr J)));have s:=E;clear E;have E:=er wr;cases b:M7 h (nth Y k)
   . have H:Hid (bi1 g h X Y=false):=zh (by
      unfold bi1;have:Y.all (M7 h)=false:=by
       rw[List.all_eq_false];exact⟨_,b78 U,by rw[b];simp⟩
      rw[this];rfl)
     rw[b]at I
     clear b
     go_wp2_with fail
     refine wl E ?_;(repeat(go_big_quiet_step(first|(go_at_call 53;with_reducible exact oa (I _)))));refine zd fun W E=>?_
     go_wp2_with fail
     go_ret
     exact⟨j1 H.o.symm,F.trans (s.trans E)⟩
   have Hh:=zh b;rw[b]at I;clear b;go_wp2_with fail;refine wl E ?_;(repeat(go_big_quiet_step(first|(go_at_call 53;with_reducible exact oa (I _)))));refine zd fun W E=>?_;go_wp2_with fail;go_roundw;exact⟨k+1,om,zg,s.trans E,zh fun j hj=>by by_cases e:j=k;(subst e;exact Hh.o);exact O.o j om⟩;exact zm1
 have H:Hid (bi1 g h X Y=(soB g X&&d7 h&&decide (X.length=Y.length)&&decide (1<=X.length/\X.length<=6))):=zh (by
  unfold bi1;have:Y.all (M7 h)=true:=oC.2 fun x K=>by
   obtain⟨j,hj,rfl⟩:=bg1 K;exact O.o j om
  rw[this];rfl)
 have C:=fun W (D:Ext B W)=>C4 u h W (p.o W D);have I:=fun W=>P6 ((X.length:Nat):Int) 1 6 W;have q:inB ((X.length:Nat):Int) 1 6=decide (1<=X.length/\X.length<=6):=by
  rw[oA,V2,decide_eq_true_iff];omega
 rw[q]at I;have hq:(((X.length:Nat):Int) == ((Y.length:Nat):Int))=decide (X.length=Y.length):=by
  rw[oA,beq_iff_eq,decide_eq_true_iff];omega
 clear q;obtain⟨d1,L⟩:=nq (soB g X);obtain⟨d2,M⟩:=nq (d7 h);obtain⟨d3,f⟩:=nq (decide (X.length=Y.length));obtain⟨d4,S⟩:=nq (decide (1<=X.length/\X.length<=6));rw[<-L,<-M,<-f,<-S]at H;rw[<-L];rw[<-M]at C;rw[<-f]at hq;rw[<-S]at I;clear L M f S;cases d1
 . go_wp2_with fail;go_ret;exact⟨j1 H.o.symm,F.trans E⟩
 cases d2
 . go_wp2_with(refine cm (C _ E) fun R d=>?_;replace E:=E.trans d);go_ret;exact⟨j1 H.o.symm,F.trans E⟩
 cases d3
 . go_wp2_with(refine cm (C _ E) fun R d=>?_;replace E:=E.trans d);go_ret;exact⟨j1 H.o.symm,F.trans E⟩
 go_wp2_with(first|(go_at_call 52;refine cm (C _ E) fun R d=>?_;replace E:=E.trans d)|(go_at_call 141;refine(I _).mono ?_;rintro e R⟨rfl,rfl⟩));go_ret;exact⟨j1 (by rw[H.o];rfl),F.trans E⟩
theorem l59{g h:LI}(u:bi1 g h X Y=true):d7 g=true/\d7 h=true/\(∃L M,X=b9 L/\Y=b9 M/\(∀y∈L,y<24)/\(∀y∈M,y<24))/\X.length=Y.length/\X.length<=6:=by
 unfold bi1 at u;simp only[ow,decide_eq_true_eq]at u;obtain⟨U,⟨⟨r,Z⟩,b⟩,-,c⟩:=u;unfold soB at r;rw[ow]at r;have k:∀(X:LI) (a:Nat),(soG g X a).isSome=true->∀x∈X,M7 g x=true:=by
  intro X;induction X with
  |nil=>intro a _ x K;cases K
  | cons y X ih =>
   intro a e x K;unfold soG at e;split at e
   . next hc =>
      rw[ow]at hc;rcases pM.1 K with rfl|K
      . exact hc.1
      . exact ih _ e x K
   . cases e
 have t:∀(l:LI) (X:LI),(∀x∈X,M7 l x=true)->X=b9 (c15 X)/\∀y∈c15 X,y<24:=by
  intro l X v;constructor;unfold b9 c15;rw[qQ];conv=>lhs;rw[<-List.map_id X]
  refine qA fun x K=>?_;obtain⟨n,rfl,-,-⟩:=b94 (v x K);rfl;intro y I;unfold c15 at I;obtain⟨x,K,rfl⟩:=pp.1 I;obtain⟨n,rfl,m,H⟩:=b94 (v x K);have:=(l8 H).2;show n<24;omega
 obtain⟨N,A⟩:=t g X (k X 0 r.1);obtain⟨O,B⟩:=t h Y (oC.1 U);exact⟨r.2,Z,⟨_,_,N,O,A,B⟩,b,c⟩
theorem zz160{P:Prop}(h:P:=by go_ret;exact⟨j1 n.o.symm,F.trans E⟩):P:=h
theorem j33(x y:Value)(X Y:LI)(w:World)(C:c8 w v g)(U:c8 w u h)(z:c8 w x X)(A:c8 w y Y):Calls Tryz.prog 329 #[.agg #[v],.agg #[u],x,y] w (RE w (.bool (fmF g h X Y))):=by
 obtain⟨B,b⟩:=nq ((w.alloc (.cells #[v] 42)).alloc (.cells #[u] 42));have F:Ext w B:=by rw[b];exact((er _).alloc _).alloc _
 have j:Blk B w.heap.size 42 #[v]:=by rw[b];exact(oq _ _ _).alloc _
 have i:Blk B (w.heap.size+1) 42 #[u]:=by rw[b];simpa using Blk.new (w.alloc (.cells #[v] 42)) 42 #[u]
 have N:=j.atc 0 rfl;have S:=i.atc 0 rfl;have K:=zh (fun W (D:Ext B W)=>C.ext (F.trans D));have I:=zh (fun W (D:Ext B W)=>U.ext (F.trans D));have E:=er B;have Z:=zh b;clear C U b j i;have O:=zh (fun W (D:Ext B W)=>z.ext (F.trans D));have R:=zh (fun W (D:Ext B W)=>A.ext (F.trans D));clear z A;have c:=fun W (D:Ext B W)=>jz3 v u g h x y X Y W (K.o W D) (I.o W D) (O.o W D) (R.o W D);cases f:bi1 g h X Y
 . have n:Hid (fmF g h X Y=false):=zh (by unfold fmF;rw[f];rfl);rw[f]at c;go_in;go_wp2_with fail;rw[<-Z.o];refine cm (c _ E) fun e V=>?_;replace E:=E.trans V;go_wp2_with fail;exact zz160
 have n:Hid (fmF g h X Y=kpB g h (c15 X) (c15 Y)):=zh (by unfold fmF;rw[f];rfl);rw[f]at c;obtain⟨H,d,⟨L,M,rfl,rfl,l,m⟩,G,p⟩:=l59 f;rw[d9,d9]at G;rw[d9]at p;rw[by7,by7]at n;have k:=fun W (D:Ext B W)=>d70 v u g h x y L M W (K.o W D) (I.o W D) (zh H) (zh d) (O.o W D) (R.o W D) l m om om;clear f H d G l m;go_in;go_wp2_with fail;rw[<-Z.o];refine cm (c _ E) fun e V=>?_;replace E:=E.trans V;go_wp2_with(refine cm (k _ E) fun e V=>?_;replace E:=E.trans V);exact zz160
theorem lb6(V y:Value)(X Y:LI)(w:World)(C:c8 w v g)(U:c8 w u h)(x:c8 w V X)(z:c8 w y Y):Calls Tryz.prog 291 #[.agg #[v],.agg #[u],V,y] w (RE w (.bool (ch6 g h X Y))):=by
 obtain⟨B,b⟩:=nq ((w.alloc (.cells #[v] 42)).alloc (.cells #[u] 42));have F:Ext w B:=by rw[b];exact((er _).alloc _).alloc _
 have j:Blk B w.heap.size 42 #[v]:=by rw[b];exact(oq _ _ _).alloc _
 have i:Blk B (w.heap.size+1) 42 #[u]:=by rw[b];simpa using Blk.new (w.alloc (.cells #[v] 42)) 42 #[u]
 have M:=j.atc 0 rfl;have S:=i.atc 0 rfl;have K:=zh (fun W (D:Ext B W)=>C.ext (F.trans D));have I:=zh (fun W (D:Ext B W)=>U.ext (F.trans D));have E:=er B;have Z:=zh b;clear C U b j i;have O:=zh (fun W (D:Ext B W)=>x.ext (F.trans D));have R:=zh (fun W (D:Ext B W)=>z.ext (F.trans D));clear x z;have c:=fun W (D:Ext B W)=>j33 v u g h V y X Y W (K.o W D) (I.o W D) (O.o W D) (R.o W D);have G:=fun W (D:Ext B W)=>j33 u v h g y V Y X W (I.o W D) (K.o W D) (R.o W D) (O.o W D);cases f:fmF g h X Y
 . have n:Hid (ch6 g h X Y=false):=zh (by unfold ch6;rw[f];rfl);rw[f]at c;go_in;go_wp2_with fail;rw[<-Z.o];refine cm (c _ E) fun e H=>?_;replace E:=E.trans H;go_wp2_with fail;exact zz160
 have n:Hid (ch6 g h X Y=fmF h g Y X):=zh (by unfold ch6;rw[f];rfl);rw[f]at c;go_in;go_wp2_with fail;rw[<-Z.o];refine cm (c _ E) fun e H=>?_;replace E:=E.trans H;go_wp2_with(refine cm (G _ E) fun e H=>?_;replace E:=E.trans H);exact zz160
def At(W:World)(a:Addr):Value:=(W.cell? a).getD (vi 0)
def Res(W:World)(r n:Nat):Prop:=∀i,i<n->W.cell? (aD r i)=some (At W (aD r i))/\W.frozen? (aD r i)=false
theorem jj1{a:Addr}{v:Value}(h:W.cell? a=some v):At W a=v:=by unfold At;rw[h];rfl
theorem Res.ext(h:Res W R n)(E:Ext W w):Res w R n:=fun i J=>by
 obtain⟨H,r⟩:=h i J
 have Y:=E.cell H
 exact⟨by rw[jj1 Y];exact Y,by rw[Below.frozen E (World.block_lt_of_cell? W _ H),r]⟩
theorem Res.drew(h:Res W r n):Res W.drew r n:=h.ext ((er W).drew)
theorem Blk.res{T:TypeId}(h:Blk W r T c)(N:n<=c.size):Res W r n:=fun i J=>by
 have H:W.cell? (aD r i)=some (c[i]'om):=h.cell zm
 exact⟨by rw[jj1 H];exact H,h.free i⟩
theorem Res.setCell(h:Res W R n)(p:Addr)(x:Value):Res (W.setCell p x) R n:=fun i J=>by
 obtain⟨H,r⟩:=h i J
 obtain⟨V,v⟩:=cell?_setCell_some (w:=W) (p:=p) (x:=x) H
 exact⟨by rw[jj1 v];exact v,by rw[World.frozen?_setCell,r]⟩
theorem Blk.new'{T:TypeId}{b:Nat}(h:w.heap.size=b):Blk (w.alloc (.cells c T)) b T c:=by subst h;exact oq _ _ _
theorem Blk.free_of{T:TypeId}(h:Blk W r T c):∀i,W.frozen? (aD r i)=false:=h.free
theorem Calls.sh{P:Program}{f:FuncId}{r:Array Value}{TI:TypeId}{L:LI}(h:Calls P f r w fun e W=>∃v,e=.returned v/\Own TI w W v L/\Ext w W):Calls P f r w fun e W=>∃A c,e=.returned (.slice A L.length c)/\Own TI w W (.slice A L.length c) L/\Ext w W :=
 h.mono fun e W ⟨v,H,O,E⟩=>by
  obtain⟨A,c,rfl,-⟩:=O.shape
  exact⟨A,c,H,O,E⟩
def N7(TI:TypeId)(wb w0 w:World)(v:Value)(l:LI):Prop :=
 (∃g,wb.heap.size<=g/\v=.slice (some (aD g 0)) 0 0/\l=[]/\Blk w g TI #[])\/Own TI w0 w v l
theorem N7.ext{TI:TypeId}{v:Value}{l:LI}(h:N7 TI B W w v l)(E:Ext w e):N7 TI B W e v l:=by
 rcases h with⟨g,S,H,r,Y⟩|h;exact Or.inl ⟨g,S,H,r,Y.ext E⟩;exact Or.inr (h.ext E)
theorem N7.own{TI:TypeId}{wb w0:World}{v:Value}{l:LI}(h:N7 TI wb w0 w v l)(E:Ext wb w0):Own TI wb w v l:=by
 rcases h with⟨g,S,rfl,rfl,H⟩|h;exact⟨⟨zm,Or.inr ⟨g,0,#[],rfl,S,H,oc _,oX _,zm,zm⟩⟩,zm⟩;exact h.mono E
theorem N7.start{TI:TypeId}{G:World}(W:World)(h:Blk G B.heap.size TI #[])(E:Ext G w):N7 TI B W w (.slice (some (aD B.heap.size 0)) 0 0) []:=Or.inl ⟨_,oc _,rfl,rfl,h.ext E⟩
section
variable {P:Program} {ops:Array Oper} {rest:List Oper} {o:Oper} {a:Act} {Q:Exit->Act->World->Prop} {T TI:TypeId}
theorem jb5(t:IntSl P T TI)(H:o.guard=none)(s x:Operand)(p:o.op=Op.call { callee:=Callee.builtin Builtin.append,args:=#[s,x],argTypes:=#[T,T] })
 (B h W:World) (v:Value) (l:LI) (y:Int) (O:N7 TI B h W v l) (E:Ext h W) (n:l.length<17592186044416) (S:a.eval s=v) (K:a.eval x=.slice (some (aD W.heap.size 0)) 1 1)
 (k:∀V e,Own TI h e V (l++[y])->Ext h e->wpList P ops Q rest (a.put o.dst V) e) :
 wpList P ops Q (o :: rest) a (W.alloc (.cells #[vi y] TI)):=by
 rcases O with⟨g,-,rfl,rfl,C⟩|O;obtain⟨i,J,Z,q,b⟩:=t.info;have z:=E.alloc (.cells #[vi y] TI);obtain⟨V,e,u,R,r⟩:=run_append_arg_grows (P:=P) (w:=W.alloc (.cells #[vi y] TI)) T o.type TI i (vi 0) 1 8 t.und J Z q b rfl om (aD g 0) 0 0 [] zm zm (aD W.heap.size 0) 1 1 [vi y] rfl (cell_one_new _ _ _) om (by unfold maxLen;omega) om;refine wpList_plain H fun D j=>?_;unfold Oper.wp;simp[execOp,p,resolve,invoke,builtin,S,K,u,Result.andThen];have A:Own TI (W.alloc (.cells #[vi y] TI)) e V [y]:=⟨by simpa using R,zm⟩;exact j _ _ (k _ _ (by simpa using A.mono z) (z.grown r zm))
 exact p6 t H s x p h W v l y O E n S K k
end
def bump(t:LI)(z:Nat):LI:=t.set z (nth t z+1)
theorem c70:(bump t z).length=t.length:=by simp[bump]
def T3(l:LI)(x:Nat)(t:LI)(L:LN):LI:=L.foldl (fun t y=>bump t (j9 l x y)) t
def L9(l:LI)(b:Nat)(t:LI)(L:LN):LI:=L.foldl (fun t x=>T3 l x t (j3 b)) t
theorem d86(t:LI)(L:LN)(y:Nat):T3 l x t (L++[y])=bump (T3 l x t L) (j9 l x y):=by
 unfold T3;rw[oH];rfl
theorem ct9(b:Nat)(t:LI)(L:LN)(x:Nat):L9 l b t (L++[x])=T3 l x (L9 l b t L) (j3 b):=by
 unfold L9;rw[oH];rfl
theorem dz7(i:Nat)(H:z<t.length):nth (bump t z) i=if i=z then nth t z+1 else nth t i:=by
 unfold bump nth;simp only[List.getD_eq_getElem?_getD,List.getElem?_set];by_cases h:i=z;subst h;simp[H];have A:¬z=i:=fun e=>h e.symm;simp[h,A]
def bo5(t:LI)(B:Int):Prop:=∀i,0<=nth t i/\nth t i<=B
theorem bo5.bump{t:LI}{B:Int}(h:bo5 t B){z:Nat}(H:z<t.length):bo5 (bump t z) (B+1):=fun i=>by
 rw[dz7 t z i H]
 have U:=h z
 have r:=h i
 split<;>omega
theorem bo5.zeros(n:Nat):bo5 (List.replicate n 0) 0:=fun i=>by
 unfold nth
 simp only[List.getD_eq_getElem?_getD,List.getElem?_replicate]
 split<;>simp
def cb1(l:LI)(a b:Int):LI:=if j0 l a&&j0 l b then L9 l b.toNat (List.replicate (ord l) 0) (j3 a.toNat)else []
theorem ji6{l:LI}{a b:Int}(h:(j0 l a&&j0 l b)=false):cb1 l a b=[]:=by unfold cb1;rw[h];rfl
theorem d07{l:LI}{a b:Nat}(h:(j0 l a&&j0 l b)=true):cb1 l a b=L9 l b (List.replicate (ord l) 0) (j3 a):=by unfold cb1;rw[h];rfl
theorem Own.cellAt{TI:TypeId}{g c:Nat}{l:LI}(h:Own TI W w (.slice (some (aD g 0)) n c) l)(N:l.length=n)(J:i<n):w.cell? (aD g i)=some (vi (nth l i))/\w.frozen? (aD g i)=false:=by
 obtain⟨A,C,v,-,-,S⟩:=h.shape;obtain⟨G,H,hc1,f⟩:=S i om;simp only[Value.slice.injEq]at v;obtain⟨V,-,-⟩:=v;rw[<-V]at H;simp only[Option.some.injEq,Addr.mk.injEq,and_true]at H;obtain rfl:=H;exact⟨hc1,f⟩
theorem Own.row{TI:TypeId}{A:Option Addr}{c:Nat}{l:LI}(h:Own TI W w (.slice A n c) l)(N:l.length=n)(p:0<n):∃g,A=some (aD g 0)/\W.heap.size<=g/\g<w.heap.size:=by
 obtain⟨O,x,v,-,C,S⟩:=h.shape;obtain⟨G,H,hc1,f⟩:=S 0 om;simp only[Value.slice.injEq]at v;obtain⟨V,-,-⟩:=v;subst V;obtain⟨g,e,U,r⟩:=C _ H;exact⟨g,by rw[H,e],U,r⟩
theorem Own.nshape{TI:TypeId}{v:Value}{L:LN}(h:Own TI W w v (b9 L)):∃(A:Option Addr) (c:Nat),v=.slice A L.length c:=by
 obtain⟨A,c,e,-,-,-⟩:=h.shape;exact⟨A,c,by rw[e,d9]⟩
theorem ba2(g n c:Nat):∀(i:Nat) W,i<n->(Instr.indexAt 40 (.slice (some (aD g 0)) n c) (vi (i:Int))).run Tryz.prog W=.ok (.pointer (some (aD g i))) W:=by
 intro i W J;rw[run_indexAt_slice (h:=elI),if_pos om,szI];simp[Result.andThen,pe]
theorem bx0{L:LN}:nth (b9 L) i=(d5 L i:Int):=P7 L i
theorem bo0(l:LI)(x:Nat):∀(L:LN) (t:LI),(T3 l x t L).length=t.length
 |[],t=>rfl
 |y :: L,t=>by
  show(T3 l x (bump t (j9 l x y)) L).length=t.length
  rw[bo0 l x L,c70]
theorem br3(l:LI)(b:Nat):∀(L:LN) (t:LI),(L9 l b t L).length=t.length
 |[],t=>rfl
 |x :: L,t=>by
  show(L9 l b (T3 l x t (j3 b)) L).length=t.length
  rw[br3 l b L,bo0]
theorem cb2{l:LI}(H:d7 l=true)(x:Nat):∀(L:LN) (t:LI) (B:Int),t.length=ord l->bo5 t B->bo5 (T3 l x t L) (B+L.length)
 |[],t,B,_,h=>by simpa[T3]using h
 |y :: L,t,B,hl,h=>by
  have z:j9 l x y<t.length:=by rw[hl];exact I4 l (m0 H) x y
  have:=cb2 H x L (bump t (j9 l x y)) (B+1) (by rw[c70];exact hl) (h.bump z)
  show bo5 (T3 l x (bump t (j9 l x y)) L) _
  rw[oy]
  intro i;have:=this i;push_cast at this|-;omega
theorem cu0{l:LI}(H:d7 l=true)(b:Nat):∀(L:LN) (t:LI) (B:Int),t.length=ord l->bo5 t B->bo5 (L9 l b t L) (B+24*L.length)
 |[],t,B,_,h=>by simpa[L9]using h
 |x :: L,t,B,hl,h=>by
  have U:=cb2 H x (j3 b) t B hl h
  have r:=cu0 H b L (T3 l x t (j3 b)) (B+(j3 b).length) (by rw[bo0];exact hl) U
  have Y:=D0 b
  show bo5 (L9 l b (T3 l x t (j3 b)) L) _
  rw[oy]
  intro i;have:=r i;push_cast at this|-;omega
theorem j59{l:LI}(H:d7 l=true){b x:Nat}{L M:LN}(W:L.length<=24)(m:M.length<=24)(i:Nat):0<=nth (T3 l x (L9 l b (List.replicate (ord l) 0) L) M) i/\nth (T3 l x (L9 l b (List.replicate (ord l) 0) L) M) i<=1000:=by
 have h:=cu0 H b L _ 0 zm (bo5.zeros (ord l));have r:=cb2 H x M _ _ (by rw[br3];simp) h;have:=r i;omega
theorem zz82{P:Prop}(h:P:=by go_wp2_with fail;go_ret;exact⟨_,rfl,O.mono F,F.trans E⟩):P:=h
theorem zz101{P:Prop}(h:P:=by go_ret;exact⟨_,rfl,by rw[N.o];exact l9 om (F.trans E) [] rfl,(F.trans E).alloc _⟩):P:=h
theorem do9(a b:Int)(w:World)(h:c8 w v l):Calls Tryz.prog 201 #[.agg #[v],vi a,vi b] w fun e c=>∃u,e=.returned u/\Own 3 w c u (cb1 l a b)/\Ext w c:=by
 obtain⟨B,Z,F,C,H,E,Hz⟩:=m04 42 h;clear h;have f:=C B E;have A:=bt8 l a b;cases S:(j0 l a&&j0 l b)
 . have N:=zh (ji6 S);rw[S]at A;clear S;go_in;go_wp2_with fail;rw[<-Z.o];rw[Hz.o];go_wp2_with(first|(go_at_call 93;refine cm (T4 _ _ _ _ _ (H _ xq) (b62 _ _ _ _) A) fun c X=>?_;replace E:=E.trans (og xq X);clear X));exact zz101
 obtain⟨h1,r⟩:=pO.1 S;obtain⟨a,rfl,-,ha,Y⟩:=l7 h1;obtain⟨b,rfl,-,hh,-⟩:=l7 r;have N:=zh (d07 S);rw[S]at A;have R:=zh Y;have hx:=l8 Y;clear S Y h1 r;go_in;go_wp2_with fail;rw[<-Z.o];rw[Hz.o];go_wp2_with(first|(go_at_call 93;refine cm (T4 _ _ _ _ _ (H _ xq) (b62 _ _ _ _) A) fun c X=>?_;replace E:=E.trans (og xq X);clear X)|(go_at_call 153;refine cx (p9 _ _ _ (H _ E) (R)) E fun c E=>?_)|(at_make;refine b10 slI rfl _ _ rfl B _ (ord l) rfl rfl om E ?_;intro w2 O I)|(go_at_call 195;refine(J1 a ha _).mono ?_;rintro e G⟨v1,rfl,W,z⟩;obtain⟨aL,n,rfl⟩:=W.nshape));obtain⟨g,hc⟩:=nq (c.heap.size);rw[<-hc]at O|-;clear hc;obtain⟨_,_,hi,hp⟩:=O.row zm om;rename_i he;simp only[Option.some.injEq,Addr.mk.injEq,and_true]at he;subst he;replace O:=O.ext z;replace E:=I.trans z;have hD:=ba2 g (ord l) (ord l);have hl:∀y∈j3 a,y<24:=fun y d=>J5 d;have hn:=D0 a;clear z I;generalize j3 a=L at W hl hn N|-;go_loopw [25] (fun i wr=>∃k:Nat,k<=L.length/\i=vi k/\Own 3 B wr (.slice (some (aD g 0)) (ord l) (ord l)) (L9 l b (List.replicate (ord l) 0) (L.take k))/\Own 3 w2 wr (.slice aL L.length n) (b9 L)/\Ext B wr) (fun i _=>L.length-(intOf i).toNat);exact⟨0,om,rfl,O,W,E⟩;case round =>
  clear E O W;obtain⟨k,V,rfl,O,W,E⟩:=hrel;have f:=C _ E;by_cases U:k<L.length
  . obtain⟨gL,rfl,-,-⟩:=W.row (d9 L) om;have K:=(W.cellAt (d9 L) U).1;rw[bx0]at K;have hm:=ba2 gL L.length n;have hw:g<wr.heap.size:=(O.blk g rfl).2;have hz:=hl _ (m7 U);have Hn:=zh (ct9 l b (List.replicate (ord l) 0) (L.take k) (d5 L k));have Hk:=zh (K9 L k U);have hv:(L.take k).length<=24:=(by rw[ol];omega);go_wp2_with(first|(go_at_call 195;refine(J1 b hh _).mono ?_;rintro e w3⟨v3,rfl,m,J⟩;obtain⟨aM,cM,rfl⟩:=m.nshape));replace O:=O.ext J;replace W:=W.ext J;replace E:=E.trans J;have hf:∀y∈j3 b,y<24:=fun y d=>J5 d;have hq:=D0 b;obtain⟨M,D⟩:=nq (j3 b);rw[<-D]at m hf hq|-;have Hd:=zh D;clear D K hm;go_loopw [32] (fun i q=>∃j:Nat,j<=M.length/\i=vi j/\Own 3 B q (.slice (some (aD g 0)) (ord l) (ord l)) (T3 l (d5 L k) (L9 l b (List.replicate (ord l) 0) (L.take k)) (M.take j))/\Own 3 w2 q (.slice (some (aD gL 0)) L.length n) (b9 L)/\Own 3 wr q (.slice aM M.length cM) (b9 M)/\Ext B q) (fun i _=>M.length-(intOf i).toNat);exact⟨0,om,rfl,O,W,m,E⟩;case round =>
     clear E O W m f;obtain⟨j,hj,rfl,O,W,m,E⟩:=hrel;have f:=C _ E;by_cases p:j<M.length
     . obtain⟨gM,rfl,-,-⟩:=m.row (d9 M) om;have K:=(m.cellAt (d9 M) p).1;rw[bx0]at K;have hC:=ba2 gM M.length cM;have hA:=hf _ (m7 p);have Ha:=zh (d86 l (d5 L k) (L9 l b (List.replicate (ord l) 0) (L.take k)) (M.take j) (d5 M j));have Hb:=zh (K9 M j p);have hr:(M.take j).length<=24:=(by rw[ol];omega);have hu:=j59 R.o (b:=b) (x:=d5 L k) hv hr (j9 l (d5 L k) (d5 M j));have ht:=I4 l (m0 R.o) (d5 L k) (d5 M j);have t:Hid ((T3 l (d5 L k) (L9 l b (List.replicate (ord l) 0) (L.take k)) (M.take j)).length=ord l):=zh (by rw[bo0,br3];simp);generalize T3 l (d5 L k) (L9 l b (List.replicate (ord l) 0) (L.take k)) (M.take j)=T at O hu Ha t;go_wp2_with(first|(go_at_call 271;refine cm (O7 _ _ _ _ _ (H _ E) R om om) fun w4 X=>?_;replace O:=O.ext X;replace W:=W.ext X;replace m:=m.ext X;replace E:=E.trans X;obtain⟨hB,hG⟩:=O.cellAt t.o ht;clear X));go_roundw;case rel =>
        refine⟨j+1,om,zg,?_,W.setCell_below hp _,m.setCell_below hw _,E.setCell hi _⟩;rw[Hb.o,Ha.o];exact(O.stored_grown t.o _ _).1
       case measure=>exact zm1
     . have s:j=M.length:=om;subst s;have ho:Own 3 B wr (.slice (some (aD g 0)) (ord l) (ord l)) (L9 l b (List.replicate (ord l) 0) (L.take (k+1))):=by
        rw[Hk.o,Hn.o,<-Hd.o];rw[oz]at O;exact O
       go_wp2_with fail;go_roundw;exact⟨k+1,om,zg,ho,W,E⟩;exact zm1
  . have s:k=L.length:=om;subst s;rw[oz,<-N.o]at O;exact zz82
def V4(l:LI)(a:Int):Int:=if j0 l a && !(a == 0)then((ord l:Int)+cnt a.toNat-1)/cnt a.toNat else -1
theorem cy0{l:LI}{a:Int}(h:j0 l a=false):V4 l a = -1:=by unfold V4;rw[h];rfl
theorem c92:V4 l 0 = -1:=by unfold V4;simp
theorem ci2{l:LI}(h:j0 l n=true)(H:0<n):V4 l n=((ord l:Int)+cnt n-1)/cnt n:=by
 unfold V4;have:((n:Int) == 0)=false:=by simp;omega
 rw[h,this];simp
theorem bt3(a:Int)(w:World)(h:c8 w v l):Calls Tryz.prog 192 #[.agg #[v],vi a] w (RE w (vi (V4 l a))):=by
 have F:=(er w).alloc (.cells #[v] 42);have E:=er (w.alloc (.cells #[v] 42));have C:=d8 w v 42;have H:∀W,Ext (w.alloc (.cells #[v] 42)) W->c8 W v l:=fun W D=>h.ext (F.trans D);clear h;cases S:j0 l a
 . have N:=zh S;go_in;go_wp2_with(first|(go_at_call 180;refine cx (F9 _ _ _ _ (H _ E)) E fun R E=>?_));go_ret;exact⟨o3 (cy0 N.o).symm,F.trans E⟩
 obtain⟨n,rfl,V,r,Y⟩:=l7 S;by_cases U:n=0
 . subst U;go_in;go_wp2_with(first|(go_at_call 180;refine cx (F9 _ _ _ _ (H _ E)) E fun R E=>?_));go_ret;exact⟨o3 (c92 l).symm,F.trans E⟩
 have f:((n:Int) == 0)=false:=zso;have m:=zh (ci2 S om);have b:=l8 Y;have B:=U3 om r;have L:=p8 n;have O:=bi6 Y;have p:=zh Y;clear Y;have q:0<=(ord l:Int)+cnt n-1:=om;go_in;go_wp2_with(first|(go_at_call 180;refine cx (F9 _ _ _ _ (H _ E)) E fun R E=>?_)|(go_at_call 153;refine cx (W2 _ _ _ (H _ E)) E fun R E=>?_)|(go_at_call 78;refine(C6 _ (r) _).mono ?_;rintro e R⟨rfl,rfl⟩));go_ret;exact⟨o3 m.o.symm,F.trans E⟩
theorem bp5(a:Int)(w:World)(h:c8 w v l):Calls Tryz.prog 139 #[.agg #[v],vi a] w (RE w (vi (V4 l a))):=by
 have F:=(er w).alloc (.cells #[v] 42);have E:=er (w.alloc (.cells #[v] 42));have C:=d8 w v 42;have H:∀W,Ext (w.alloc (.cells #[v] 42)) W->c8 W v l:=fun W D=>h.ext (F.trans D);clear h;cases S:j0 l a
 . have N:=zh S;go_in;go_wp2_with(first|(go_at_call 124;refine cx (L1 _ _ _ _ (H _ E)) E fun R E=>?_));go_ret;exact⟨o3 (cy0 N.o).symm,F.trans E⟩
 obtain⟨n,rfl,V,r,Y⟩:=l7 S;by_cases U:n=0
 . subst U;go_in;go_wp2_with(first|(go_at_call 124;refine cx (L1 _ _ _ _ (H _ E)) E fun R E=>?_));go_ret;exact⟨o3 (c92 l).symm,F.trans E⟩
 have f:((n:Int) == 0)=false:=zso;have m:=zh (ci2 S om);have b:=l8 Y;have B:=U3 om r;have L:=p8 n;have O:=trivial;have p:=zh Y;clear Y;have q:0<=(ord l:Int)+cnt n-1:=om;go_in;go_wp2_with(first|(go_at_call 124;refine cx (L1 _ _ _ _ (H _ E)) E fun R E=>?_)|(go_at_call 103;refine cx (o4 _ _ _ (H _ E) (p)) E fun R E=>?_)|(go_at_call 125;refine(o7 _ (r) _).mono ?_;rintro e R⟨rfl,rfl⟩));go_ret;exact⟨o3 m.o.symm,F.trans E⟩
def IsK(w:World)(c:Value)(l:LI)(n:Int)(m:LI):Prop:=∃v u,c=.agg #[v,vi n,u]/\c8 w v l/\c8 w u m
theorem IsK.ext{c:Value}{l m:LI}{n:Int}(h:IsK w c l n m)(E:Ext w e):IsK e c l n m:=by
 obtain⟨v,u,rfl,H,r⟩:=h;exact⟨v,u,rfl,H.ext E,r.ext E⟩
end Go.Zz
