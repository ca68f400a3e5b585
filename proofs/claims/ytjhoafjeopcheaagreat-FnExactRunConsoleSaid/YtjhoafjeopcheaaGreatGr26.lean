/- Boxes. -/
import Derived.Test.YtjhoafjeopcheaaGreatGr22
set_option linter.all false
set_option maxHeartbeats 4000000
set_option maxRecDepth 20000
namespace Go.Zz
open Go.RowKit Go.Proofs
variable(v:Value)(l:LI)(a:Int)(d n k:Nat)(w:World){c x:Nat}
theorem bv6(h:c8 w v l)(R:Hid (d7 l=true))(hd:d<24)(H:n<=24):Calls Tryz.prog 323 #[.agg #[v],vi 0,vi d,vi n] w (RE w (vi (N1 l 0 d n:Nat))):=bi7 v l 0 d n w h R om hd H
theorem bj5(h:c8 w v l)(R:Hid (d7 l=true))(hd:d<24)(H:n<=24):Calls Tryz.prog 328 #[.agg #[v],vi 0,vi d,vi n] w (RE w (vi (N1 l 0 d n:Nat))):=b96 v l 0 d n w h R om hd H
def lq2(b:Bool)(w:World)(e:Ending)(W:World):Prop:=∃p q,e=.returned (.tuple #[p,q,.bool b])/\Ext w W
theorem jh8{a m:Nat}(h:a<=24):wrap64 ((a:Int)/(m:Int))=((a/m:Nat):Int):=by
 rw[<-qa];exact cp4 _ (by have:=po a m;omega)
theorem zz34{P:Prop}(h:P:=by go_in;go_wp2_with fail;rw[<-Z.o];refine cm (W2 _ _ _ (H _ E)) fun G z=>?_;have ha:=C _ z;go_wp2_with fail;refine cm (q6 _ _ _ _ (H _ z) S) fun P I=>?_;have hZ:=F.trans (z.trans I);go_wp2_with fail;exact bodyPost_ret (v:=.tuple #[.slice (some (aD P.heap.size 0)) 0 0,.slice (some (aD (P.heap.size+1) 0)) 0 0,.bool false]) (by simp[results,Tryz.results320,go_sem]) rfl ⟨_,_,by rw[N.o],(hZ.alloc _).alloc _⟩):P:=h
theorem zz39{P:Prop}(h:P:=by go_wp2_with fail;go_roundw;exact⟨m+1,om,om,zg,fun M h A=>by by_cases q:M=m;(subst q;exact J.o);exact Ha.o M h om,E⟩;exact zm1):P:=h
theorem zz61{P:Prop}(h:P:=by go_roundw;exact⟨e+1,om,zg,fun y h=>by by_cases q:y=e;(subst q;exact J.o);exact Hb.o y om,E⟩;exact zm1):P:=h
theorem zz120{P:Prop}(h:P:=by go_wp2_with fail;go_roundw;exact⟨d+1,om,zg,fun D h y A=>by by_cases q:D=d;(subst q;exact Hb.o y om);exact He.o D om y A,E⟩;exact zm1):P:=h
theorem zz133{P:Prop}(h:P:=by go_wp2_with fail;go_roundw;exact⟨x+1,om,zg,fun X h=>by by_cases q:X=x;(subst q;exact Hx.o);exact Hf.o X om,E⟩;exact zm1):P:=h
theorem j74(h:c8 w v l):Calls Tryz.prog 320 #[.agg #[v],vi a] w (lq2 (b82 l a) w):=by
 obtain⟨wb,Z,F,C,H,E,Hi⟩:=m04 42 h;clear h;have L:=C wb E;cases S:j0 l a;have N:=zh (cm5 (P5 S));exact zz34;obtain⟨n,rfl,h1,r,Y⟩:=l7 S;by_cases h0:n=0;subst h0;have N:Hid (b82 l ((0:Nat):Int)=false):=zh (cm5 (J7 l));exact zz34;have N:=zh (dq9 (Q4 S om));have hl:((n:Int) == 0)=false:=zso;have R:=zh Y;have hA:=l8 Y;have hn:=p8 n;clear Y h0 h1;go_in;go_wp2_with fail;rw[<-Z.o];refine cm (p9 _ _ _ (H _ E) R) fun G z=>?_;have ha:=C _ z;go_wp2_with fail;refine cm (q6 _ _ _ _ (H _ z) S) fun p I=>?_;go_wp2_with(first|(go_at_call 78;refine(C6 _ (r) _).mono ?_;rintro e w'⟨rfl,rfl⟩));have eW:=F.trans (z.trans I);have hf:=sh (z.trans I) C;have j:=sh (z.trans I) H;clear C H L ha E z I hl S;have E:=er p;go_loopw [9] (fun s wr=>∃m:Nat,1<=m/\m<=5/\s=vi m/\(∀M,1<=M->M<m->bxM l n M=false)/\Ext p wr) (fun s _=>5-(intOf s).toNat);exact⟨1,om,om,rfl,om,E⟩;case round =>
  clear E;obtain⟨m,k,hk,rfl,O,E⟩:=hrel;have Ha:=zh O;clear O;have hj:0<=(m:Int)*(m:Int)/\(m:Int)*(m:Int)<=25:=by
   have:=pm hk hk;rw[<-oO];omega
  obtain⟨hj,hK⟩:=hj;by_cases U:m*m<=cnt n
  . have hy:(m:Int)*(m:Int)<=(cnt n:Int):=(by rw[<-oO];omega);have hJ:m<=4:=by
     rcases qq 4 m with c|c
     . have:=pm c c;omega
     . exact c
    have Ht:=zh U;clear U;by_cases b:cnt n%m=0
    . have ho:((cnt n:Int)%(m:Int) != 0)=false:=(by rw[<-pn,b];rfl);have Q:=jh8 (m:=m) hn;have hm:((m:Int) == 0)=false:=zso;have Hh:=zh b;obtain⟨q,u⟩:=nq (cnt n/m);have ht:q<=24:=(by rw[u];exact nle (po _ _) hn);rw[<-u]at Q;have Hg:=zh Q;have Hq:=zh u;clear b u Q;go_wp2_with fail;go_loopw [40] (fun s wr=>∃d:Nat,d<=ord l/\s=vi d/\(∀D,D<d->∀e,e<ord l->bh4 l n m D e=false)/\Ext p wr) (fun s _=>ord l-(intOf s).toNat);exact⟨0,om,rfl,om,E⟩;case round =>
       clear E;obtain⟨d,hd,rfl,O,E⟩:=hrel;have He:=zh O;clear O;by_cases hw:d<ord l
       . go_wp2_with fail;go_loopw [44] (fun s wr=>∃e:Nat,e<=ord l/\s=vi e/\(∀y,y<e->bh4 l n m d y=false)/\Ext p wr) (fun s _=>ord l-(intOf s).toNat);exact⟨0,om,rfl,om,E⟩;case round =>
          clear E;obtain⟨e,he,rfl,O,E⟩:=hrel;have Hb:=zh O;clear O;by_cases hr:e<ord l
          . have hu:=fun UU=>hf _ (E.trans (c9 wr UU));have i:=sh E j;have p1:=ba0 R.o (s:=0) om d m;have p2:=ba0 R.o (s:=0) om e q;have hB:=H7 R.o (N1 l 0 d m) (N1 l 0 e q);have g:Hid (bxS l n m d e=j7 l (N1 l 0 d m) (N1 l 0 e q)):=zh (by unfold bxS;rw[Hq.o]);have z:=E;clear E;have E:=er wr;have da:d<24:=om;have ea:e<24:=om;have ma:m<=24:=om;have Q:=Hg.o;go_wp2_with fail;refine wl E ?_;(repeat(go_big_quiet_step(first|(go_at_call 323;with_reducible exact oa (bv6 _ _ d m _ (i _ (c9 wr _)) R da ma))|(go_at_call 323;with_reducible exact oa (bv6 _ _ e q _ (i _ (c9 wr _)) R ea ht))|(go_at_call 75;with_reducible exact oa (J2 _ _ _ _ _ (i _ (c9 wr _)) R p1 p2)))));refine zd fun W E=>?_;replace E:=z.trans E;rw[<-g.o]at hB;rw[<-g.o];clear z i hu p1 p2 Q;by_cases T:cnt (bxS l n m d e)=cnt n
            . have hi:((cnt (bxS l n m d e):Int) != (cnt n:Int))=false:=(by rw[T];simp);have Hc:=zh T;clear T;generalize hh:bxS l n m d e=B at hB g Hc hi|-;have Hd:=zh hh;clear hh;go_wp2_with(first|(go_at_call 78;refine(C6 _ (hB) _).mono ?_;rintro e w'⟨rfl,rfl⟩));go_loopw [64] (fun s wr=>∃x:Nat,x<=ord l/\s=vi x/\(∀X,X<x->¬j6 l B X=n)/\Ext p wr) (fun s _=>ord l-(intOf s).toNat);exact⟨0,om,rfl,om,E⟩;case round =>
               clear E;obtain⟨x,K,rfl,O,E⟩:=hrel;have Hf:=zh O;clear O;by_cases hz:x<ord l
               . have L:=hf _ E;have xa:x<24:=om;by_cases t:j6 l B x=n
                 . have hp:((j6 l B x:Int) == (n:Int))=true:=(by rw[t];simp);have f:=zh (jd3 k Ht.o Hh.o hw hr hz (by rw[Hd.o];exact Hc.o) (by rw[Hd.o];exact t));clear t;go_wp2_with fail;refine cm (M8 _ _ _ _ _ (j _ E) R hB xa) fun wr V=>?_;replace E:=E.trans V;clear V L;have Q:=Hg.o;have hv:¬m=0:=fun e=>Nat.lt_irrefl 0 (by rw[e]at k;exact k);have hI:¬(m:Int)=0:=fun e=>hv (Int.ofNat_eq_zero.1 e);have hD:=(er wr).drew;go_wp2_with fail;(first|(go_region_held3 (fun W=>Ext wr W) (exact xq) (first|fail))|(fail "the region that returns"));all_goals go_wp2_with fail
                   all_goals
                    first
                    |(refine bodyPost_ret (v:=.tuple #[.slice (some (aD wr.heap.size 0)) 2 2,.slice (some (aD (wr.heap.size+1) 0)) 2 2,.bool true]) ?_ rfl ⟨_,_,by rw[N.o,f.o],eW.trans (E.trans xq)⟩;(simp[results,Tryz.results320,go_sem];done))
                    |(refine bodyPost_ret (v:=.tuple #[.slice (some (aD (wr.heap.size+1) 0)) 2 2,.slice (some (aD wr.heap.size 0)) 2 2,.bool true]) ?_ rfl ⟨_,_,by rw[N.o,f.o],eW.trans (E.trans xq)⟩;(simp[results,Tryz.results320,go_sem];done))
                 . have Hx:=zh t;have hp:((j6 l B x:Int) == (n:Int))=false:=zso;clear t;go_wp2_with fail;refine cm (M8 _ _ _ _ _ (j _ E) R hB xa) fun wr V=>?_;replace E:=E.trans V;clear V L;exact zz133
               . have hC:x=ord l:=om;have J:Hid (bh4 l n m d e=false):=zh (jd1 fun X h=>by rw[Hd.o];exact Hf.o X om);go_wp2_with fail;exact zz61
            . have hi:((cnt (bxS l n m d e):Int) != (cnt n:Int))=true:=zso;have J:=zh (dr2 T);clear T;generalize bxS l n m d e=B at hB g hi|-;go_wp2_with(first|(go_at_call 78;refine(C6 _ (hB) _).mono ?_;rintro e w'⟨rfl,rfl⟩));exact zz61
          . have hG:e=ord l:=om;exact zz120
       . have hH:d=ord l:=om;have J:Hid (bxM l n m=false):=zh (jq1 fun D h y A=>He.o D om y A);exact zz39
    . have ho:((cnt n:Int)%(m:Int) != 0)=true:=(by rw[<-pn];simp;omega);have hm:((m:Int) == 0)=false:=zso;have J:=zh (jd2 (l:=l) b);clear b;exact zz39
  . have hy:¬(m:Int)*(m:Int)<=(cnt n:Int):=(by rw[<-oO];omega);have f:=zh (jq2 Ha.o U);clear U;go_wp2_with fail;exact bodyPost_ret (v:=.tuple #[.slice (some (aD wr.heap.size 0)) 0 0,.slice (some (aD (wr.heap.size+1) 0)) 0 0,.bool false]) (by simp[results,Tryz.results320,go_sem]) rfl ⟨_,_,by rw[N.o,f.o],eW.trans ((E.alloc _).alloc _)⟩
theorem zz52{P:Prop}(h:P:=by go_in;go_wp2_with fail;rw[<-Z.o];refine cm (m6 _ _ _ _ (H _ E) S) fun P I=>?_;have hZ:=F.trans I;go_wp2_with fail;exact bodyPost_ret (v:=.tuple #[.slice (some (aD P.heap.size 0)) 0 0,.slice (some (aD (P.heap.size+1) 0)) 0 0,.bool false]) (by simp[results,Tryz.results289,go_sem]) rfl ⟨_,_,by rw[N.o],(hZ.alloc _).alloc _⟩):P:=h
theorem j30(h:c8 w v l):Calls Tryz.prog 289 #[.agg #[v],vi a] w (lq2 (b82 l a) w):=by
 obtain⟨wb,Z,F,C,H,E,Hi⟩:=m04 42 h;clear h;have b:=C wb E;cases S:j0 l a;have N:=zh (cm5 (P5 S));exact zz52;obtain⟨n,rfl,h1,r,Y⟩:=l7 S;by_cases h0:n=0;subst h0;have N:Hid (b82 l ((0:Nat):Int)=false):=zh (cm5 (J7 l));exact zz52;have N:=zh (dq9 (Q4 S om));have hk:((n:Int) == 0)=false:=zso;have R:=zh Y;have hz:=l8 Y;have hn:=p8 n;clear Y h0 h1;go_in;go_wp2_with fail;rw[<-Z.o];refine cm (m6 _ _ _ _ (H _ E) S) fun G z=>?_;go_wp2_with(first|(go_at_call 125;refine(o7 _ (r) _).mono ?_;rintro e w'⟨rfl,rfl⟩));refine cm (o4 _ _ _ (H _ z) R) fun p I=>?_;go_wp2_with fail;have eW:=F.trans (z.trans I);have L:=sh (z.trans I) C;have j:=sh (z.trans I) H;clear C H b E z I hk S;have E:=er p;go_loopw [9] (fun s wr=>∃m:Nat,1<=m/\m<=5/\s=vi m/\(∀M,1<=M->M<m->bxM l n M=false)/\Ext p wr) (fun s _=>5-(intOf s).toNat);exact⟨1,om,om,rfl,om,E⟩;case round =>
  clear E;obtain⟨m,k,hj,rfl,O,E⟩:=hrel;have Ha:=zh O;clear O;have hh:0<=(m:Int)*(m:Int)/\(m:Int)*(m:Int)<=25:=by
   have:=pm hj hj;rw[<-oO];omega
  obtain⟨hh,hJ⟩:=hh;by_cases U:m*m<=cnt n
  . have hw:(m:Int)*(m:Int)<=(cnt n:Int):=(by rw[<-oO];omega);have hI:m<=4:=by
     rcases qq 4 m with c|c
     . have:=pm c c;omega
     . exact c
    have Ht:=zh U;clear U;by_cases f:cnt n%m=0
    . have hm:((cnt n:Int)%(m:Int) != 0)=false:=(by rw[<-pn,f];rfl);have Q:=jh8 (m:=m) hn;have hl:((m:Int) == 0)=false:=zso;have Hh:=zh f;obtain⟨q,u⟩:=nq (cnt n/m);have hr:q<=24:=(by rw[u];exact nle (po _ _) hn);rw[<-u]at Q;have Hg:=zh Q;have Hq:=zh u;clear f u Q;go_wp2_with fail;go_loopw [10] (fun s wr=>∃d:Nat,d<=ord l/\s=vi d/\(∀D,D<d->∀e,e<ord l->bh4 l n m D e=false)/\Ext p wr) (fun s _=>ord l-(intOf s).toNat);exact⟨0,om,rfl,om,E⟩;case round =>
       clear E;obtain⟨d,hd,rfl,O,E⟩:=hrel;have He:=zh O;clear O;by_cases hv:d<ord l
       . have b:=L _ E;have da:d<24:=om;have ma:m<=24:=om;have p1:=ba0 R.o (s:=0) om d m;go_wp2_with fail;refine cm (bj5 _ _ d m _ (j _ E) R da ma) fun w3 V=>?_;replace E:=E.trans V;clear V b;go_wp2_with fail;go_loopw [12] (fun s wr=>∃e:Nat,e<=ord l/\s=vi e/\(∀y,y<e->bh4 l n m d y=false)/\Ext p wr) (fun s _=>ord l-(intOf s).toNat);exact⟨0,om,rfl,om,E⟩;case round =>
          clear E;obtain⟨e,he,rfl,O,E⟩:=hrel;have Hb:=zh O;clear O;by_cases hp:e<ord l
          . have hu:=fun UU=>L _ (E.trans (c9 wr UU));have ha:=sh E j;have p2:=ba0 R.o (s:=0) om e q;have hB:=H7 R.o (N1 l 0 d m) (N1 l 0 e q);have i:Hid (bxS l n m d e=j7 l (N1 l 0 d m) (N1 l 0 e q)):=zh (by unfold bxS;rw[Hq.o]);have z:=E;clear E;have E:=er wr;have ea:e<24:=om;have Q:=Hg.o;go_wp2_with fail;refine wl E ?_;(repeat(go_big_quiet_step(first|(go_at_call 328;with_reducible exact oa (bj5 _ _ e q _ (ha _ (c9 wr _)) R ea hr))|(go_at_call 145;with_reducible exact oa (E6 _ _ _ _ _ (ha _ (c9 wr _)) R p1 p2)))));refine zd fun W E=>?_;replace E:=z.trans E;rw[<-i.o]at hB;rw[<-i.o];clear z ha hu p2 Q;by_cases T:cnt (bxS l n m d e)=cnt n
            . have hi:((cnt (bxS l n m d e):Int) != (cnt n:Int))=false:=(by rw[T];simp);have Hc:=zh T;clear T;generalize hf:bxS l n m d e=B at hB i Hc hi|-;have Hd:=zh hf;clear hf;go_wp2_with(first|(go_at_call 125;refine(o7 _ (hB) _).mono ?_;rintro e w'⟨rfl,rfl⟩));go_loopw [14] (fun s wr=>∃x:Nat,x<=ord l/\s=vi x/\(∀X,X<x->¬j6 l B X=n)/\Ext p wr) (fun s _=>ord l-(intOf s).toNat);exact⟨0,om,rfl,om,E⟩;case round =>
               clear E;obtain⟨x,K,rfl,O,E⟩:=hrel;have Hf:=zh O;clear O;by_cases hy:x<ord l
               . have b:=L _ E;have xa:x<24:=om;by_cases t:j6 l B x=n
                 . have ho:((j6 l B x:Int) == (n:Int))=true:=(by rw[t];simp);have g:=zh (jd3 k Ht.o Hh.o hv hp hy (by rw[Hd.o];exact Hc.o) (by rw[Hd.o];exact t));clear t;go_wp2_with fail;refine cm (M4 _ _ _ _ _ (j _ E) R hB xa) fun wr V=>?_;replace E:=E.trans V;clear V b;have Q:=Hg.o;have ht:¬m=0:=fun e=>Nat.lt_irrefl 0 (by rw[e]at k;exact k);have hH:¬(m:Int)=0:=fun e=>ht (Int.ofNat_eq_zero.1 e);have hD:=(er wr).drew;go_wp2_with fail;(first|(go_region_held3 (fun W=>Ext wr W) (exact xq) (first|fail))|(fail "the region that returns"));all_goals go_wp2_with fail
                   all_goals
                    first
                    |(refine bodyPost_ret (v:=.tuple #[.slice (some (aD wr.heap.size 0)) 2 2,.slice (some (aD (wr.heap.size+1) 0)) 2 2,.bool true]) ?_ rfl ⟨_,_,by rw[N.o,g.o],eW.trans (E.trans xq)⟩;(simp[results,Tryz.results289,go_sem];done))
                    |(refine bodyPost_ret (v:=.tuple #[.slice (some (aD (wr.heap.size+1) 0)) 2 2,.slice (some (aD wr.heap.size 0)) 2 2,.bool true]) ?_ rfl ⟨_,_,by rw[N.o,g.o],eW.trans (E.trans xq)⟩;(simp[results,Tryz.results289,go_sem];done))
                 . have Hx:=zh t;have ho:((j6 l B x:Int) == (n:Int))=false:=zso;clear t;go_wp2_with fail;refine cm (M4 _ _ _ _ _ (j _ E) R hB xa) fun wr V=>?_;replace E:=E.trans V;clear V b;exact zz133
               . have hA:x=ord l:=om;have J:Hid (bh4 l n m d e=false):=zh (jd1 fun X h=>by rw[Hd.o];exact Hf.o X om);go_wp2_with fail;exact zz61
            . have hi:((cnt (bxS l n m d e):Int) != (cnt n:Int))=true:=zso;have J:=zh (dr2 T);clear T;generalize bxS l n m d e=B at hB i hi|-;go_wp2_with(first|(go_at_call 125;refine(o7 _ (hB) _).mono ?_;rintro e w'⟨rfl,rfl⟩));exact zz61
          . have hC:e=ord l:=om;exact zz120
       . have hG:d=ord l:=om;have J:Hid (bxM l n m=false):=zh (jq1 fun D h y A=>He.o D om y A);exact zz39
    . have hm:((cnt n:Int)%(m:Int) != 0)=true:=(by rw[<-pn];simp;omega);have hl:((m:Int) == 0)=false:=zso;have J:=zh (jd2 (l:=l) f);clear f;exact zz39
  . have hw:¬(m:Int)*(m:Int)<=(cnt n:Int):=(by rw[<-oO];omega);have g:=zh (jq2 Ha.o U);clear U;go_wp2_with fail;exact bodyPost_ret (v:=.tuple #[.slice (some (aD wr.heap.size 0)) 0 0,.slice (some (aD (wr.heap.size+1) 0)) 0 0,.bool false]) (by simp[results,Tryz.results289,go_sem]) rfl ⟨_,_,by rw[N.o,g.o],eW.trans ((E.alloc _).alloc _)⟩
theorem jo6(h:c8 w v l):Calls Tryz.prog 269 #[.agg #[v],vi a] w (RE w (.bool (b82 l a))):=by
 obtain⟨B,Z,F,C,H,E,s⟩:=m04 42 h;clear h;have b:=C B E;go_in;go_wp2_with fail;rw[<-Z.o];refine(j74 _ _ _ _ (H _ E)).mono ?_;rintro e G⟨p,q,rfl,z⟩;exact zz98
theorem ce0(h:c8 w v l){c:Bool}(H:b82 l a=c):Calls Tryz.prog 269 #[.agg #[v],vi a] w (RE w (.bool c)):=by subst H;exact jo6 v l a w h
theorem jn4(h:c8 w v l):Calls Tryz.prog 228 #[.agg #[v],vi a] w (RE w (.bool (b82 l a))):=by
 obtain⟨B,Z,F,C,H,E,s⟩:=m04 42 h;clear h;have b:=C B E;go_in;go_wp2_with fail;rw[<-Z.o];refine(j30 _ _ _ _ (H _ E)).mono ?_;rintro e G⟨p,q,rfl,z⟩;exact zz98
theorem ca4(h:c8 w v l){c:Bool}(H:b82 l a=c):Calls Tryz.prog 228 #[.agg #[v],vi a] w (RE w (.bool c)):=by subst H;exact jn4 v l a w h
noncomputable def stF (l:LI) (a:Int):Ba :=
 if j0 l a then if a=0 then⟨#[101,109,112,116,121]⟩else if (decide (a.toNat=l6 l))then⟨#[119,104,111,108,101]⟩else if b83 l a then⟨#[99,111,115,101,116]⟩else if P8 l a then⟨#[112,101,114,105,111,100,105,99]⟩else if bl1 l a then⟨#[112,114,111,103,114,101,115,115,105,111,110]⟩else if b82 l a then⟨#[98,111,120]⟩else if sidB l a then⟨#[115,105,100,111,110]⟩else⟨#[111,116,104,101,114]⟩
 else⟨#[]⟩
theorem lh1{l:LI}{a:Int}(h:j0 l a=false):stF l a=⟨#[]⟩:=by unfold stF;rw[h];rfl
theorem ji4{l:LI}(h:j0 l ((0:Nat):Int)=true):stF l ((0:Nat):Int)=⟨#[101,109,112,116,121]⟩:=by unfold stF;rw[h];rfl
theorem lx0{l:LI}{n:Nat}(h:j0 l n=true)(f:n≠0)(H:decide (n=l6 l)=true):stF l n=⟨#[119,104,111,108,101]⟩:=by
 unfold stF;rw[if_pos h,if_neg om];simp only[oY,H,if_true,if_false,pb]
theorem lx1{l:LI}{n:Nat}(h:j0 l n=true)(f:n≠0)(H:decide (n=l6 l)=false)(o:b83 l n=true):stF l n=⟨#[99,111,115,101,116]⟩:=by
 unfold stF;rw[if_pos h,if_neg om];simp only[oY,H,o,if_true,if_false,pb]
theorem lx2{l:LI}{n:Nat}(h:j0 l n=true)(f:n≠0)(H:decide (n=l6 l)=false)(o:b83 l n=false)(r:P8 l n=true):stF l n=⟨#[112,101,114,105,111,100,105,99]⟩:=by
 unfold stF;rw[if_pos h,if_neg om];simp only[oY,H,o,r,if_true,if_false,pb]
theorem lx3{l:LI}{n:Nat}(h:j0 l n=true)(f:n≠0)(H:decide (n=l6 l)=false)(o:b83 l n=false)(r:P8 l n=false)(T:bl1 l n=true):stF l n=⟨#[112,114,111,103,114,101,115,115,105,111,110]⟩:=by
 unfold stF;rw[if_pos h,if_neg om];simp only[oY,H,o,r,T,if_true,if_false,pb]
theorem lx4{l:LI}{n:Nat}(h:j0 l n=true)(f:n≠0)(H:decide (n=l6 l)=false)(o:b83 l n=false)(r:P8 l n=false)(T:bl1 l n=false)(a:b82 l n=true):stF l n=⟨#[98,111,120]⟩:=by
 unfold stF;rw[if_pos h,if_neg om];simp only[oY,H,o,r,T,a,if_true,if_false,pb]
theorem lx5{l:LI}{n:Nat}(h:j0 l n=true)(f:n≠0)(H:decide (n=l6 l)=false)(o:b83 l n=false)(r:P8 l n=false)(T:bl1 l n=false)(a:b82 l n=false)(c:sidB l n=true):stF l n=⟨#[115,105,100,111,110]⟩:=by
 unfold stF;rw[if_pos h,if_neg om];simp only[oY,H,o,r,T,a,c,if_true,if_false,pb]
theorem lx6{l:LI}{n:Nat}(h:j0 l n=true)(f:n≠0)(H:decide (n=l6 l)=false)(o:b83 l n=false)(r:P8 l n=false)(T:bl1 l n=false)(a:b82 l n=false)(c:sidB l n=false):stF l n=⟨#[111,116,104,101,114]⟩:=by
 unfold stF;rw[if_pos h,if_neg om];simp only[oY,H,o,r,T,a,c,if_true,if_false,pb]
theorem d19(h:c8 w v l):Calls Tryz.prog 181 #[.agg #[v],vi a] w (RE w (.string (stF l a))):=by
 obtain⟨B,Z,F,C,H,E,s⟩:=m04 42 h;clear h;have x:=C B E;cases S:j0 l a
 . have N:=zh (lh1 S);go_in;go_wp2_with fail;rw[<-Z.o];go_wp2_with(first|(go_at_call 180;refine cx (q6 _ _ _ _ (H _ E) (S)) E fun e E=>?_));exact zz65
 obtain⟨n,rfl,W,r,Y⟩:=l7 S;by_cases U:n=0
 . subst U;have N:=zh (ji4 S);go_in;go_wp2_with fail;rw[<-Z.o];go_wp2_with(first|(go_at_call 180;refine cx (q6 _ _ _ _ (H _ E) (S)) E fun e E=>?_));exact zz65
 have g:((n:Int) == 0)=false:=zso;have m:=zh U;have R:=zh Y;have b:=l8 Y;have L:=bu9 l;have G:=nlt L (E7 Y);have p:=o6 (n:=ord l) om;have j:=bc9 b.2;have O:=X9 (ord l);have k:Hid (((pw (ord l):Nat):Int)-1=(l6 l:Int)):=zh (by unfold l6;omega);clear Y U;cases c:decide (n=l6 l);rotate_left
 ·
    have z:=zh (lx0 S m.o c)
    have f:((n:Int) == (l6 l:Int))=decide (n=l6 l):=(by rw[oA];simp;omega);rw[c]at f
    skip
    go_in
    go_wp2_with fail
    rw[<-Z.o]
    go_wp2_with(first|(go_at_call 180;refine cx (q6 _ _ _ _ (H _ E) (S)) E fun e E=>?_)|(go_at_call 202;refine cx (J4 _ _ _ (H _ E) (R)) E fun e E=>?_))
    go_ret
    exact zz16
 cases P:b83 l n;rotate_left
 ·
    have z:=zh (lx1 S m.o c P)
    have f:((n:Int) == (l6 l:Int))=decide (n=l6 l):=(by rw[oA];simp;omega);rw[c]at f
    skip
    go_in
    go_wp2_with fail
    rw[<-Z.o]
    go_wp2_with(first|(go_at_call 180;refine cx (q6 _ _ _ _ (H _ E) (S)) E fun e E=>?_)|(go_at_call 202;refine cx (J4 _ _ _ (H _ E) (R)) E fun e E=>?_)|(go_at_call 267;refine cx (b76 _ _ _ _ (H _ E) P) E fun e E=>?_))
    go_ret
    exact zz16
 cases T:P8 l n;rotate_left
 ·
    have z:=zh (lx2 S m.o c P T)
    have f:((n:Int) == (l6 l:Int))=decide (n=l6 l):=(by rw[oA];simp;omega);rw[c]at f
    skip
    go_in
    go_wp2_with fail
    rw[<-Z.o]
    go_wp2_with(first|(go_at_call 180;refine cx (q6 _ _ _ _ (H _ E) (S)) E fun e E=>?_)|(go_at_call 202;refine cx (J4 _ _ _ (H _ E) (R)) E fun e E=>?_)|(go_at_call 267;refine cx (b76 _ _ _ _ (H _ E) P) E fun e E=>?_)|(go_at_call 200;refine cx (N3 _ _ _ _ (H _ E) T) E fun e E=>?_))
    go_ret
    exact zz16
 cases c3:bl1 l n;rotate_left
 ·
    have z:=zh (lx3 S m.o c P T c3)
    have f:((n:Int) == (l6 l:Int))=decide (n=l6 l):=(by rw[oA];simp;omega);rw[c]at f
    skip
    go_in
    go_wp2_with fail
    rw[<-Z.o]
    go_wp2_with(first|(go_at_call 180;refine cx (q6 _ _ _ _ (H _ E) (S)) E fun e E=>?_)|(go_at_call 202;refine cx (J4 _ _ _ (H _ E) (R)) E fun e E=>?_)|(go_at_call 267;refine cx (b76 _ _ _ _ (H _ E) P) E fun e E=>?_)|(go_at_call 200;refine cx (N3 _ _ _ _ (H _ E) T) E fun e E=>?_)|(go_at_call 268;refine cx (b34 _ _ _ _ (H _ E) c3) E fun e E=>?_))
    go_ret
    exact zz16
 cases V:b82 l n;rotate_left
 ·
    have z:=zh (lx4 S m.o c P T c3 V)
    have f:((n:Int) == (l6 l:Int))=decide (n=l6 l):=(by rw[oA];simp;omega);rw[c]at f
    skip
    go_in
    go_wp2_with fail
    rw[<-Z.o]
    go_wp2_with(first|(go_at_call 180;refine cx (q6 _ _ _ _ (H _ E) (S)) E fun e E=>?_)|(go_at_call 202;refine cx (J4 _ _ _ (H _ E) (R)) E fun e E=>?_)|(go_at_call 267;refine cx (b76 _ _ _ _ (H _ E) P) E fun e E=>?_)|(go_at_call 200;refine cx (N3 _ _ _ _ (H _ E) T) E fun e E=>?_)|(go_at_call 268;refine cx (b34 _ _ _ _ (H _ E) c3) E fun e E=>?_)|(go_at_call 269;refine cx (ce0 _ _ _ _ (H _ E) V) E fun e E=>?_))
    go_ret
    exact zz16
 cases X:sidB l n;rotate_left
 ·
    have z:=zh (lx5 S m.o c P T c3 V X)
    have f:((n:Int) == (l6 l:Int))=decide (n=l6 l):=(by rw[oA];simp;omega);rw[c]at f
    skip
    go_in
    go_wp2_with fail
    rw[<-Z.o]
    go_wp2_with(first|(go_at_call 180;refine cx (q6 _ _ _ _ (H _ E) (S)) E fun e E=>?_)|(go_at_call 202;refine cx (J4 _ _ _ (H _ E) (R)) E fun e E=>?_)|(go_at_call 267;refine cx (b76 _ _ _ _ (H _ E) P) E fun e E=>?_)|(go_at_call 200;refine cx (N3 _ _ _ _ (H _ E) T) E fun e E=>?_)|(go_at_call 268;refine cx (b34 _ _ _ _ (H _ E) c3) E fun e E=>?_)|(go_at_call 269;refine cx (ce0 _ _ _ _ (H _ E) V) E fun e E=>?_)|(go_at_call 185;refine cx (cr1 _ _ _ _ (H _ E) X) E fun e E=>?_))
    go_ret
    exact zz16
 have z:=zh (lx6 S m.o c P T c3 V X);have f:((n:Int) == (l6 l:Int))=decide (n=l6 l):=(by rw[oA];simp;omega);rw[c]at f;skip;go_in;go_wp2_with fail;rw[<-Z.o];go_wp2_with(first|(go_at_call 180;refine cx (q6 _ _ _ _ (H _ E) (S)) E fun e E=>?_)|(go_at_call 202;refine cx (J4 _ _ _ (H _ E) (R)) E fun e E=>?_)|(go_at_call 267;refine cx (b76 _ _ _ _ (H _ E) P) E fun e E=>?_)|(go_at_call 200;refine cx (N3 _ _ _ _ (H _ E) T) E fun e E=>?_)|(go_at_call 268;refine cx (b34 _ _ _ _ (H _ E) c3) E fun e E=>?_)|(go_at_call 269;refine cx (ce0 _ _ _ _ (H _ E) V) E fun e E=>?_)|(go_at_call 185;refine cx (cr1 _ _ _ _ (H _ E) X) E fun e E=>?_));go_ret;exact zz16
theorem cz6(h:c8 w v l):Calls Tryz.prog 126 #[.agg #[v],vi a] w (RE w (.string (stF l a))):=by
 obtain⟨B,Z,F,C,H,E,s⟩:=m04 42 h;clear h;have x:=C B E;cases S:j0 l a
 . have N:=zh (lh1 S);go_in;go_wp2_with fail;rw[<-Z.o];go_wp2_with(first|(go_at_call 124;refine cx (m6 _ _ _ _ (H _ E) (S)) E fun e E=>?_));exact zz65
 obtain⟨n,rfl,d,r,Y⟩:=l7 S;by_cases U:n=0
 . subst U;have N:=zh (ji4 S);go_in;go_wp2_with fail;rw[<-Z.o];go_wp2_with(first|(go_at_call 124;refine cx (m6 _ _ _ _ (H _ E) (S)) E fun e E=>?_));exact zz65
 have g:((n:Int) == 0)=false:=zso;have m:=zh U;have R:=zh Y;have b:=l8 Y;have L:=bu9 l;have G:=nlt L (E7 Y);have p:=o6 (n:=ord l) om;have j:=bc9 b.2;have O:=X9 (ord l);have W:Hid (((pw (ord l):Nat):Int)-1=(l6 l:Int)):=zh (by unfold l6;omega);clear Y U;cases c:decide (n=l6 l);rotate_left
 ·
    have z:=zh (lx0 S m.o c)
    have f:((n:Int) == ((pw (ord l):Nat):Int)-1)=decide (n=l6 l):=(by rw[W.o,oA];simp;omega);rw[c]at f
    skip
    go_in
    go_wp2_with fail
    rw[<-Z.o]
    go_wp2_with(first|(go_at_call 124;refine cx (m6 _ _ _ _ (H _ E) (S)) E fun e E=>?_)|(go_at_call 103;refine cx (o4 _ _ _ (H _ E) (R)) E fun e E=>?_))
    go_ret
    exact zz16
 cases P:b83 l n;rotate_left
 ·
    have z:=zh (lx1 S m.o c P)
    have f:((n:Int) == ((pw (ord l):Nat):Int)-1)=decide (n=l6 l):=(by rw[W.o,oA];simp;omega);rw[c]at f
    skip
    go_in
    go_wp2_with fail
    rw[<-Z.o]
    go_wp2_with(first|(go_at_call 124;refine cx (m6 _ _ _ _ (H _ E) (S)) E fun e E=>?_)|(go_at_call 103;refine cx (o4 _ _ _ (H _ E) (R)) E fun e E=>?_)|(go_at_call 225;refine cx (b49 _ _ _ _ (H _ E) P) E fun e E=>?_))
    go_ret
    exact zz16
 cases T:P8 l n;rotate_left
 ·
    have z:=zh (lx2 S m.o c P T)
    have f:((n:Int) == ((pw (ord l):Nat):Int)-1)=decide (n=l6 l):=(by rw[W.o,oA];simp;omega);rw[c]at f
    skip
    go_in
    go_wp2_with fail
    rw[<-Z.o]
    go_wp2_with(first|(go_at_call 124;refine cx (m6 _ _ _ _ (H _ E) (S)) E fun e E=>?_)|(go_at_call 103;refine cx (o4 _ _ _ (H _ E) (R)) E fun e E=>?_)|(go_at_call 225;refine cx (b49 _ _ _ _ (H _ E) P) E fun e E=>?_)|(go_at_call 226;refine cx (M6 _ _ _ _ (H _ E) T) E fun e E=>?_))
    go_ret
    exact zz16
 cases c3:bl1 l n;rotate_left
 ·
    have z:=zh (lx3 S m.o c P T c3)
    have f:((n:Int) == ((pw (ord l):Nat):Int)-1)=decide (n=l6 l):=(by rw[W.o,oA];simp;omega);rw[c]at f
    skip
    go_in
    go_wp2_with fail
    rw[<-Z.o]
    go_wp2_with(first|(go_at_call 124;refine cx (m6 _ _ _ _ (H _ E) (S)) E fun e E=>?_)|(go_at_call 103;refine cx (o4 _ _ _ (H _ E) (R)) E fun e E=>?_)|(go_at_call 225;refine cx (b49 _ _ _ _ (H _ E) P) E fun e E=>?_)|(go_at_call 226;refine cx (M6 _ _ _ _ (H _ E) T) E fun e E=>?_)|(go_at_call 227;refine cx (b23 _ _ _ _ (H _ E) c3) E fun e E=>?_))
    go_ret
    exact zz16
 cases V:b82 l n;rotate_left
 ·
    have z:=zh (lx4 S m.o c P T c3 V)
    have f:((n:Int) == ((pw (ord l):Nat):Int)-1)=decide (n=l6 l):=(by rw[W.o,oA];simp;omega);rw[c]at f
    skip
    go_in
    go_wp2_with fail
    rw[<-Z.o]
    go_wp2_with(first|(go_at_call 124;refine cx (m6 _ _ _ _ (H _ E) (S)) E fun e E=>?_)|(go_at_call 103;refine cx (o4 _ _ _ (H _ E) (R)) E fun e E=>?_)|(go_at_call 225;refine cx (b49 _ _ _ _ (H _ E) P) E fun e E=>?_)|(go_at_call 226;refine cx (M6 _ _ _ _ (H _ E) T) E fun e E=>?_)|(go_at_call 227;refine cx (b23 _ _ _ _ (H _ E) c3) E fun e E=>?_)|(go_at_call 228;refine cx (ca4 _ _ _ _ (H _ E) V) E fun e E=>?_))
    go_ret
    exact zz16
 cases X:sidB l n;rotate_left
 ·
    have z:=zh (lx5 S m.o c P T c3 V X)
    have f:((n:Int) == ((pw (ord l):Nat):Int)-1)=decide (n=l6 l):=(by rw[W.o,oA];simp;omega);rw[c]at f
    skip
    go_in
    go_wp2_with fail
    rw[<-Z.o]
    go_wp2_with(first|(go_at_call 124;refine cx (m6 _ _ _ _ (H _ E) (S)) E fun e E=>?_)|(go_at_call 103;refine cx (o4 _ _ _ (H _ E) (R)) E fun e E=>?_)|(go_at_call 225;refine cx (b49 _ _ _ _ (H _ E) P) E fun e E=>?_)|(go_at_call 226;refine cx (M6 _ _ _ _ (H _ E) T) E fun e E=>?_)|(go_at_call 227;refine cx (b23 _ _ _ _ (H _ E) c3) E fun e E=>?_)|(go_at_call 228;refine cx (ca4 _ _ _ _ (H _ E) V) E fun e E=>?_)|(go_at_call 132;refine cx (ck3 _ _ _ _ (H _ E) X) E fun e E=>?_))
    go_ret
    exact zz16
 have z:=zh (lx6 S m.o c P T c3 V X);have f:((n:Int) == ((pw (ord l):Nat):Int)-1)=decide (n=l6 l):=(by rw[W.o,oA];simp;omega);rw[c]at f;skip;go_in;go_wp2_with fail;rw[<-Z.o];go_wp2_with(first|(go_at_call 124;refine cx (m6 _ _ _ _ (H _ E) (S)) E fun e E=>?_)|(go_at_call 103;refine cx (o4 _ _ _ (H _ E) (R)) E fun e E=>?_)|(go_at_call 225;refine cx (b49 _ _ _ _ (H _ E) P) E fun e E=>?_)|(go_at_call 226;refine cx (M6 _ _ _ _ (H _ E) T) E fun e E=>?_)|(go_at_call 227;refine cx (b23 _ _ _ _ (H _ E) c3) E fun e E=>?_)|(go_at_call 228;refine cx (ca4 _ _ _ _ (H _ E) V) E fun e E=>?_)|(go_at_call 132;refine cx (ck3 _ _ _ _ (H _ E) X) E fun e E=>?_));go_ret;exact zz16
def R9(l:LI)(a:Nat):Nat->Nat
 |0=>1
 |k+1=>j7 l (R9 l a k) a
theorem c46{l:LI}(h:d7 l=true)(a k:Nat):R9 l a k<2^24:=by
 cases k with
 |zero=>show 1<_;decide
 |succ k=>exact H7 h _ _
def O0(l:LI)(a k:Nat):LN:=(List.range k).map (fun i=>cnt (R9 l a (i+1)))
theorem d39(a k:Nat):O0 l a (k+1)=O0 l a k++[cnt (R9 l a (k+1))]:=by unfold O0;rw[oW,pF];rfl
theorem by2(a k:Nat):(O0 l a k).length=k:=by simp[O0]
def obF(l:LI)(a:Nat):Option Nat:=(List.range 31).find? (fun k=>R9 l a k == l6 l)
def obV(l:LI)(a:Nat):Int:=match obF l a with|some k=>k|none=>-1
def bt9(l:LI)(a:Nat):Bool:=decide (0<=obV l a)
theorem jw8{l:LI}{a k:Nat}(V:k<31)(h:∀j,j<k->(R9 l a j == l6 l)=false)(p:(R9 l a k == l6 l)=true):obV l a=k:=by unfold obV obF;rw[bk0 V h p]
theorem dz8{l:LI}{a:Nat}(h:∀j,j<31->(R9 l a j == l6 l)=false):obV l a = -1:=by unfold obV obF;rw[bf5 h]
theorem lv4(a:Nat): -1<=obV l a:=by unfold obV;split<;>omega
theorem bl5{l:LI}{n:Nat}(S:j0 l (n:Int)=true):n<2^24/\d7 l=true:=by
 obtain⟨m,h,o,r,Y⟩:=l7 S;have e:m=n:=om;subst e;exact⟨r,Y⟩
theorem bw7(h:c8 w v l)(S:j0 l (n:Int)=true)(V:k<=30):Calls Tryz.prog 270 #[.agg #[v],vi n,vi k] w (RE w (vi (R9 l n k))):=by
 obtain⟨B,Z,F,C,H,E,z⟩:=m04 42 h;clear h;have b:=C B E;obtain⟨r,Y⟩:=bl5 S;have R:=zh Y;have i:inB (k:Int) 0 30=true:=V2.2 om;have c:=fun W=>H8 (k:Int) 0 30 W;rw[i]at c;clear Y i;go_in;go_wp2_with fail;rw[<-Z.o];go_wp2_with(first|(go_at_call 180;refine cx (q6 _ _ _ _ (H _ E) (S)) E fun P E=>?_)|(go_at_call 168;refine(c _).mono ?_;rintro e P⟨rfl,rfl⟩));go_loopw [7,18] (fun I s wr=>∃j:Nat,j<=k/\s=vi j/\I=vi (R9 l n j)/\Ext B wr) (fun _ s _=>k-(intOf s).toNat);exact⟨0,om,rfl,rfl,E⟩
 clear E;obtain⟨j,f,rfl,rfl,E⟩:=hrel;have b:=C _ E;have m:=c46 R.o n j;have N:Hid (R9 l n (j+1)=j7 l (R9 l n j) n):=zh rfl;by_cases U:j<k
 . have t:(j:Int)<(k:Int):=om;obtain⟨M,d⟩:=nq (R9 l n j);rw[<-d]at m N|-;clear d;go_wp2_with(first|(go_at_call 75;refine cx (J2 _ _ _ _ _ (H _ E) (R) (m) (r)) E fun P E=>?_));go_roundw;exact⟨j+1,om,zg,by rw[N.o],E⟩;exact zm1
 have t:¬(j:Int)<(k:Int):=om;have J:j=k:=om;subst J;exact zz41
theorem do5(h:c8 w v l)(S:j0 l (n:Int)=true):Calls Tryz.prog 182 #[.agg #[v],vi n,vi 4] w fun e P=>∃V,e=.returned V/\Own 3 w P V (b9 (O0 l n 4))/\Ext w P:=by
 obtain⟨B,Z,F,C,H,E,a⟩:=m04 42 h;clear h;obtain⟨wc,c⟩:=nq (B.alloc (.cells #[] 3));have O:Own 3 B wc (.slice (some (aD B.heap.size 0)) 0 0) []:=by rw[c];exact l9 om E [] rfl
 replace E:Ext B wc:=by rw[c];exact E.alloc _
 have K:Hid (B.heap.size+1=wc.heap.size):=zh (by rw[c];simp[go_sem]);have J:=zh c;clear c;obtain⟨r,Y⟩:=bl5 S;have R:=zh Y;have i:inB (4:Int) 0 30=true:=by decide
 have p:=fun W=>H8 (4:Int) 0 30 W;rw[i]at p;have b:=C _ E;clear Y i;go_in;go_wp2_with fail;rw[<-Z.o,<-J.o];rw[a.o];try rw[K.o]
 go_wp2_with(first|(go_at_call 180;refine cm (q6 _ _ _ _ (H _ E) S) fun w3 I=>?_)|(go_at_call 168;refine(p _).mono ?_;rintro e P⟨rfl,rfl⟩));go_loopw [7,8] (fun Q s wr=>∃j:Nat,1<=j/\j<=5/\s=vi j/\Own 3 B wr Q (b9 (O0 l n (j-1)))/\Ext B wr) (fun _ s _=>5-(intOf s).toNat);exact⟨1,om,om,rfl,(O.ext I:Own 3 B _ _ []),E.trans I⟩
 clear E O I;rename World=>wr;obtain⟨j,g,f,rfl,O,E⟩:=hrel;have b:=C _ E;have L:(b9 (O0 l n (j-1))).length<17592186044416:=by rw[d9,by2];omega
 by_cases U:j<=4
 . have t:(j:Int)<=4:=om;have T:=bw7 v l n j wr (H _ E) S om;have m:=c46 R.o n j;have N:Hid (O0 l n (j+1-1)=O0 l n (j-1)++[cnt (R9 l n j)]):=zh (by
    have:=d39 l n (j-1);rw[show j-1+1=j by omega]at this;rw[show j+1-1=j by omega];exact this)
   obtain⟨M,d⟩:=nq (R9 l n j);rw[<-d]at m N T;have x:=fun W=>C6 M m W;clear d;go_wp2_with(first|(go_at_call 270;refine cm T fun w3 I=>?_)|(go_at_call 78;refine(x _).mono ?_;rintro e P⟨rfl,rfl⟩)|(at_builtin;refine p6 slI rfl _ _ rfl B _ _ _ _ (O.ext I) (E.trans I) L rfl rfl ?_;intro q G X z));go_roundw;exact⟨j+1,om,om,zg,by rw[N.o];simpa[G6]using X,z⟩;exact zm1
 have t:¬(j:Int)<=4:=om;have k:j=5:=om;subst k;exact zz82
theorem dn1(h:c8 w v l)(S:j0 l (n:Int)=true):Calls Tryz.prog 128 #[.agg #[v],vi n,vi 4] w fun e P=>∃V,e=.returned V/\Own 3 w P V (b9 (O0 l n 4))/\Ext w P:=by
 obtain⟨B,Z,F,C,H,E,X⟩:=m04 42 h;clear h;obtain⟨wc,c⟩:=nq (B.alloc (.cells #[] 3));have O:Own 3 B wc (.slice (some (aD B.heap.size 0)) 0 0) []:=by rw[c];exact l9 om E [] rfl
 replace E:Ext B wc:=by rw[c];exact E.alloc _
 have a:Hid (B.heap.size+1=wc.heap.size):=zh (by rw[c];simp[go_sem]);have K:=zh c;clear c;obtain⟨r,Y⟩:=bl5 S;have R:=zh Y;have i:inB (4:Int) 0 30=true:=by decide
 have p:=fun W=>P6 (4:Int) 0 30 W;rw[i]at p;have b:=C _ E;clear Y i;go_in;go_wp2_with fail;rw[<-Z.o,<-K.o];rw[X.o];try rw[a.o]
 go_wp2_with(first|(go_at_call 124;refine cm (m6 _ _ _ _ (H _ E) S) fun w3 I=>?_)|(go_at_call 141;refine(p _).mono ?_;rintro e P⟨rfl,rfl⟩));go_loopw [7,8,9] (fun f g k wr=>∃j:Nat,j<=4/\k=vi j/\g=vi (R9 l n j)/\Own 3 B wr f (b9 (O0 l n j))/\Ext B wr) (fun _ _ k _=>4-(intOf k).toNat);exact⟨0,om,rfl,rfl,(O.ext I:Own 3 B _ _ []),E.trans I⟩
 clear E O I;rename World=>wr;obtain⟨j,ha,rfl,rfl,O,E⟩:=hrel;have b:=C _ E;have L:(b9 (O0 l n j)).length<17592186044416:=by rw[d9,by2];omega
 by_cases U:j<4
 . have t:(j:Int)<4:=om;have m:=c46 R.o n j;have Q:=c46 R.o n (j+1);have J:Hid (R9 l n (j+1)=j7 l (R9 l n j) n):=zh rfl;have s:=E6 v l (R9 l n j) n wr (H _ E) R m r;have N:=zh (d39 l n j);rw[<-J.o]at s;obtain⟨u,d⟩:=nq (R9 l n (j+1));obtain⟨M,D⟩:=nq (R9 l n j);rw[<-D]at s|-;rw[<-d]at Q N s;have q:=zh d;have x:=fun W=>o7 u Q W;clear D d J m;go_wp2_with(first|(go_at_call 145;refine cm s fun w3 I=>?_)|(go_at_call 125;refine(x _).mono ?_;rintro e P⟨rfl,rfl⟩)|(at_builtin;refine p6 slI rfl _ _ rfl B _ _ _ _ (O.ext I) (E.trans I) L rfl rfl ?_;intro A G T z));go_roundw;exact⟨j+1,om,zg,by rw[q.o],by rw[N.o];simpa[G6]using T,z⟩;exact zm1
 have t:¬(j:Int)<4:=om;have y:j=4:=om;subst y;exact zz82
theorem cu8(h:c8 w v l)(S:j0 l (n:Int)=true):Calls Tryz.prog 273 #[.agg #[v],vi n] w (RE w (vi (obV l n))):=by
 obtain⟨B,Z,F,C,H,E,z⟩:=m04 42 h;clear h;obtain⟨r,Y⟩:=bl5 S;have R:=zh Y;clear Y;go_in;go_wp2_with fail;rw[<-Z.o];go_loopw [5] (fun K wr=>∃k:Nat,k<=31/\K=vi k/\Ext B wr/\Hid (∀j,j<k->(R9 l n j == l6 l)=false)) (fun K _=>31-(intOf K).toNat);exact⟨0,om,rfl,E,zh fun j J=>absurd J om⟩
 clear E;rename World=>wr;obtain⟨k,V,rfl,E,x⟩:=hrel;have b:=C _ E;by_cases U:k<=30
 . have t:(k:Int)<=30:=om;go_wp2_with(go_at_call 180;refine cm (q6 _ _ _ _ (H _ E) S) fun w3 G=>?_);have e:=E.trans G;have L:=fun u=>C _ (e.trans (c9 w3 u));have m:=fun u=>bw7 v l n k (Lat w3 u) (H _ (e.trans (c9 w3 u))) S om;have c:=fun u=>J4 v l (Lat w3 u) (H _ (e.trans (c9 w3 u))) R;obtain⟨M,d⟩:=nq (R9 l n k);obtain⟨s,f⟩:=nq (l6 l);simp only[<-d]at m;simp only[<-f]at c;cases Q:(M == s)
   . have I:((M:Int) == (s:Int))=false:=(by rw[beq_eq_false_iff_ne]at Q|-;omega);have N:Hid ((R9 l n k == l6 l)=false):=zh (by rw[<-d,<-f];exact Q);clear Q d f E G;have E:=er w3;refine wl E ?_;(repeat(go_big_quiet_step(first|(go_at_call 270;with_reducible exact oa (m _))|(go_at_call 202;with_reducible exact oa (c _)))));refine zd fun W E=>?_;go_wp2_with fail;go_roundw;exact⟨k+1,om,zg,e.trans E,zh fun j J=>by by_cases q:j=k;(rw[q];exact N.o);exact x.o j om⟩;exact zm1
   have I:((M:Int) == (s:Int))=true:=(by rw[beq_iff_eq]at Q|-;omega);have N:Hid (obV l n=(k:Int)):=zh (jw8 om x.o (by rw[<-d,<-f];exact Q));clear Q d f E G;have E:=er w3;refine wl E ?_;(repeat(go_big_quiet_step(first|(go_at_call 270;with_reducible exact oa (m _))|(go_at_call 202;with_reducible exact oa (c _)))));refine zd fun W E=>?_;go_wp2_with fail;go_ret;exact⟨o3 N.o.symm,F.trans (e.trans E)⟩
 have t:¬(k:Int)<=30:=om;have N:=zh (dz8 (l:=l) (a:=n) fun j J=>x.o j om);go_wp2_with fail;go_ret;exact zz42
theorem j75(h:c8 w v l)(S:j0 l (n:Int)=true):Calls Tryz.prog 187 #[.agg #[v],vi n] w (RE w (.bool (bt9 l n))):=by
 obtain⟨B,Z,F,C,H,E,s⟩:=m04 42 h;clear h;have x:=C B E;have c:=cu8 v l n B (H _ E) S;have b:=lv4 l n;have q:Hid ((obV l n != -1)=bt9 l n):=zh (by
  unfold bt9;rw[oA,bne_iff_ne,decide_eq_true_iff];omega)
 obtain⟨D,O⟩:=nq (obV l n);rw[<-O]at c q;clear O b;go_in;go_wp2_with fail;rw[<-Z.o];go_wp2_with(go_at_call 273;refine cm c fun w3 e=>?_);go_ret;exact⟨j1 q.o,F.trans e⟩
theorem cq7(h:c8 w v l)(S:j0 l (n:Int)=true):Calls Tryz.prog 232 #[.agg #[v],vi n] w (RE w (vi (obV l n))):=by
 obtain⟨B,Z,F,C,H,E,z⟩:=m04 42 h;clear h;have b:=C B E;obtain⟨r,Y⟩:=bl5 S;have R:=zh Y;have O:=l8 Y;have p:=o6 (n:=ord l) om;have L:((pw (ord l):Nat):Int)-1=(l6 l:Int):=by unfold l6;have:=X9 (ord l);omega
 have P:=bc9 O.2;have W:IntKind.i64.wrap (((pw (ord l):Nat):Int)-1)=(l6 l:Int):=by rw[L];exact oD _ (by unfold l6;omega)
 obtain⟨f,D⟩:=nq (l6 l);rw[<-D]at W;have g:=zh D;clear Y L D;go_in;go_wp2_with fail;rw[<-Z.o];go_wp2_with(first|(go_at_call 124;refine cx (m6 _ _ _ _ (H _ E) (S)) E fun e E=>?_));go_loopw [5,6] (fun I s wr=>∃k:Nat,k<=31/\s=vi k/\I=vi (R9 l n k)/\Ext B wr/\Hid (∀j,j<k->(R9 l n j == l6 l)=false)) (fun _ s _=>31-(intOf s).toNat);exact⟨0,om,rfl,rfl,E,zh fun j J=>absurd J om⟩
 clear E;rename World=>wr;obtain⟨k,V,rfl,rfl,E,u⟩:=hrel;have b:=C _ E;by_cases U:k<=30
 . have t:(k:Int)<=30:=om;have m:=c46 R.o n k;have G:Hid (R9 l n (k+1)=j7 l (R9 l n k) n):=zh rfl;obtain⟨M,d⟩:=nq (R9 l n k);rw[<-d]at m G|-;cases Q:(M == f)
   . have i:((M:Int) == (f:Int))=false:=(by rw[beq_eq_false_iff_ne]at Q|-;omega);have N:Hid ((R9 l n k == l6 l)=false):=zh (by rw[<-d,<-g.o];exact Q);clear Q d;go_wp2_with(first|(go_at_call 103;refine cx (o4 _ _ _ (H _ E) (R)) E fun e E=>?_)|(go_at_call 145;refine cx (E6 _ _ _ _ _ (H _ E) (R) (m) (r)) E fun e E=>?_));go_roundw;exact⟨k+1,om,zg,by rw[G.o],E,zh fun j J=>by by_cases q:j=k;(rw[q];exact N.o);exact u.o j om⟩;exact zm1
   have i:((M:Int) == (f:Int))=true:=(by rw[beq_iff_eq]at Q|-;omega);have N:Hid (obV l n=(k:Int)):=zh (jw8 om u.o (by rw[<-d,<-g.o];exact Q));clear Q d;go_wp2_with(first|(go_at_call 103;refine cx (o4 _ _ _ (H _ E) (R)) E fun e E=>?_));go_ret;exact zz42
 have t:¬(k:Int)<=30:=om;have N:=zh (dz8 (l:=l) (a:=n) fun j J=>u.o j om);go_wp2_with fail;go_ret;exact zz42
theorem j31(h:c8 w v l)(S:j0 l (n:Int)=true):Calls Tryz.prog 134 #[.agg #[v],vi n] w (RE w (.bool (bt9 l n))):=by
 obtain⟨B,Z,F,C,H,E,s⟩:=m04 42 h;clear h;have b:=C B E;have c:=cq7 v l n B (H _ E) S;have q:Hid (decide (0<=obV l n)=bt9 l n):=zh rfl;obtain⟨D,O⟩:=nq (obV l n);rw[<-O]at c q;clear O;go_in;go_wp2_with fail;rw[<-Z.o];go_wp2_with(go_at_call 232;refine cm c fun w3 e=>?_);go_ret;exact⟨j1 q.o,F.trans e⟩
def ptF(l:LI)(x d:Nat):Nat->Nat
 |0=>x
 |j+1=>j9 l (ptF l x d j) d
theorem c51{l:LI}(h:d7 l=true){d:Nat}(K:x<ord l):∀j,ptF l x d j<ord l
 |0=>K
 |j+1=>I4 l (m0 h) _ _
theorem cy9{l:LI}(h:d7 l=true){x d:Nat}(K:x<ord l):∀i j,ptF l x d i=ptF l x d (i+j)->ptF l x d j=x
 |0,j,e=>by rw[oM]at e;exact e.symm
 |i+1,j,e=>by
  refine cy9 h K i j ?_
  rw[show i+1+j=(i+j)+1 by omega]at e
  have E:j9 l d (ptF l x d i)=j9 l d (ptF l x d (i+j)):=by rw[E4 l d,E4 l d];exact e
  exact b26 (m0 h) (c51 h K _) (c51 h K _) E
def Run(l:LI)(a x d c:Nat):Prop:=∀i,1<=i->i<c->ptF l x d i≠x/\a.testBit (ptF l x d i)=true
theorem Run.ne{l:LI}(h:d7 l=true){a d:Nat}(K:x<ord l)(R:Run l a x d c){i j:Nat}(I:i<j)(H:j<c):ptF l x d i≠ptF l x d j:=fun e=>by
 have:=cy9 h K i (j-i) (by rw[show i+(j-i)=j by omega];exact e)
 exact(R (j-i) om om).1 this
theorem Run.le{l:LI}(h:d7 l=true){a d:Nat}(K:x<ord l)(R:Run l a x d c):c<=24:=by
 have n:((List.range c).map (ptF l x d)).Nodup:=by
  unfold List.Nodup;rw[List.pairwise_map];refine List.Pairwise.imp_of_mem ?_ List.pairwise_lt_range;intro i j J e I;exact Run.ne h K R I (ou.1 e)
 have C:=dr9 n (fun y H=>by
  rw[pp]at H
  obtain⟨j,-,rfl⟩:=H
  exact nlt (c51 h K j) (l8 h).2)
 have:=p8 (B7 ((List.range c).map (ptF l x d)));rw[C,oG,List.length_range]at this;exact this
def dc9(l:LI)(a x d:Nat):Nat:=match(List.range 24).find? (fun j=>(ptF l x d (j+1) == x) || !(a.testBit (ptF l x d (j+1))))with|some j=>j+1|none=>0
theorem dd0{l:LI}(h:d7 l=true){a d:Nat}(K:x<ord l)(H:1<=c)(R:Run l a x d c)(S:ptF l x d c=x\/a.testBit (ptF l x d c)=false):dc9 l a x d=c:=by
 have L:=Run.le h K R;have e:(List.range 24).find? (fun j=>(ptF l x d (j+1) == x) || !(a.testBit (ptF l x d (j+1))))=some (c-1):=by
  refine bk0 om (fun j J=>?_) ?_;obtain⟨o,r⟩:=R (j+1) om om;rw[r,beq_eq_false_iff_ne.2 o];rfl;rw[show c-1+1=c by omega];rcases S with S|S
  rw[S];simp;rw[S];simp
 unfold dc9;rw[e];show c-1+1=c;omega
theorem Run.one(a x d:Nat):Run l a x d 1:=fun i o r=>om
theorem Run.next{l:LI}{a d:Nat}(h:Run l a x d c)(o:ptF l x d c≠x)(r:a.testBit (ptF l x d c)=true):Run l a x d (c+1):=fun i H I=>by
 by_cases q:i=c
 . subst q;exact⟨o,r⟩
 . exact h i H om
def bd1(l:LI)(x d:Nat):Nat->Nat
 |0=>0
 |c+1=>bd1 l x d c ||| 2^ptF l x d c
theorem d00{l:LI}(h:d7 l=true){x d:Nat}(K:x<ord l):∀c,bd1 l x d c<2^24
 |0=>by show 0<_;decide
 |c+1=>ox (d00 h K c) (oJ om (nlt (c51 h K c) (l8 h).2))
theorem cl0(l:LI)(x d y:Nat):∀c,(bd1 l x d c).testBit y=true↔∃i,i<c/\ptF l x d i=y
 |0=>by simp[bd1]
 | c+1=>by
  show(bd1 l x d c ||| 2^ptF l x d c).testBit y=true↔_
  rw[oN,pG,cl0 l x d y c,pd,decide_eq_true_iff]
  constructor
  . rintro (⟨i,o,r⟩|h)
    . exact⟨i,om,r⟩
    . exact⟨c,om,h⟩
  . rintro⟨i,o,r⟩
    by_cases q:i=c
    . subst q;exact Or.inr r
    . exact Or.inl ⟨i,om,r⟩
theorem jz7{l:LI}(h:d7 l=true){a d:Nat}(K:x<ord l)(H:1<=c)(R:Run l a x d c)(S:(bd1 l x d c).testBit (ptF l x d c)=true):ptF l x d c=x:=by
 obtain⟨i,o,r⟩:=(cl0 l x d _ c).1 S;by_cases q:i=0;subst q;exact r.symm;have:=cy9 h K i (c-i) (by rw[show i+(c-i)=c by omega];exact r);exact absurd this (R (c-i) om om).1
theorem lb8{l:LI}{d:Nat}(h:1<=c)(S:(bd1 l x d c).testBit (ptF l x d c)=false):ptF l x d c≠x:=fun e=>by
 have:=(cl0 l x d (ptF l x d c) c).2 ⟨0,om,e.symm⟩
 rw[this]at S;cases S
def lpD(l:LI)(a x m k:Nat):Nat:=(List.range k).foldl (fun b d=>max b (dc9 l a x d)) m
theorem cx7(a x m k:Nat):lpD l a x m (k+1)=max (lpD l a x m k) (dc9 l a x k):=by unfold lpD;rw[oW,oH];rfl
def lpX(l:LI)(a:Nat)(L:LN):Nat:=L.foldl (fun m x=>lpD l a x m (ord l)) 0
theorem l87(a:Nat)(L:LN)(x:Nat):lpX l a (L++[x])=lpD l a x (lpX l a L) (ord l):=by unfold lpX;rw[oH];rfl
def lpF(l:LI)(a:Nat):Nat:=lpX l a (j3 a)
theorem ln4(a x d:Nat):dc9 l a x d<=24:=by
 unfold dc9;split;rename_i j h;have:=List.mem_of_find?_eq_some h;rw[ou]at this;omega;omega
theorem d47(l:LI)(a x m:Nat)(h:m<=24):∀k,lpD l a x m k<=24
 |0=>h
 |k+1=>by rw[cx7];have:=d47 l a x m h k;have:=ln4 l a x k;omega
theorem cx8{l:LI}{a:Nat}{L:LN}{k:Nat}(h:k<L.length):lpX l a (L.take (k+1))=lpD l a (d5 L k) (lpX l a (L.take k)) (ord l):=by
 rw[qP,show L[k]?.toList=[d5 L k] by simp[d5,List.getD,h],l87]
theorem ci1(l:LI)(a:Nat)(L:LN):∀k,lpX l a (L.take k)<=24
 |0=>by simp[lpX]
 |k+1=>by
  by_cases h:k<L.length
  . rw[cx8 h];exact d47 _ _ _ _ (ci1 l a L k) _
  . rw[pE om,<-pE (l:=L) (i:=k) om];exact ci1 l a L k
end Go.Zz
