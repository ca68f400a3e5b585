/- How often a number stands; sums of parts; sequences with the sum zero and without such parts. -/
import Derived.Test.YtjhoafjeopcheaaGreatGr14
set_option linter.all false
set_option maxHeartbeats 2000000
set_option maxRecDepth 8000
namespace Go.Zz
open Go.RowKit Go.Proofs
variable(v u:Value)(l:LI)(f:Nat)(X:LN)(S m:Nat)(x:LI)(b:LN)(s:LI)(w:World){k i:Nat}
theorem zz73{P:Prop}(h:P:=by have H:=zh (dz2 e);have q:(x == nth s k)=false:=(by rw[beq_eq_false_iff_ne];exact fun h=>e h.symm);have m:(nth s k == x)=false:=(by rw[beq_eq_false_iff_ne];exact e);clear e;go_wp2_with fail;go_round;exact⟨k+1,om,zg,by rw[H.o]⟩;exact zm1):P:=h
theorem zz89{P:Prop}(h:P:=by have H:=zh (dj0 e);have q:(x == nth s k)=true:=(by rw[e];simp);have m:(nth s k == x)=true:=(by rw[e];simp);clear e;go_wp2_with fail;go_round;exact⟨k+1,om,zg,by rw[H.o];go_num⟩;exact zm1):P:=h
theorem ce3(x:Int)(w:World)(A:c8 w u s):Calls Tryz.prog 249 #[u,vi x] w fun e W=>e=.returned (vi (c93 s x:Nat))/\w=W:=by
 obtain⟨Q,c,d,rfl,L,a,l⟩:=A.op;have I:=j2 (c:=c) elI szI a;clear a A;go_in;go_wp2_with fail;go_loop [5,10] (fun n i=>∃k:Nat,k<=s.length/\i=vi k/\n=vi (bb1 s x k:Nat)) (fun _ i=>s.length-(intOf i).toNat);exact⟨0,om,rfl,rfl⟩
 obtain⟨k,V,rfl,rfl⟩:=hrel;have M:=c94 s x k;by_cases U:k<s.length;have C:=l k w U (er _);by_cases e:nth s k=x;exact zz89;exact zz73;have K:k=s.length:=om;subst K;go_wp2_with fail;exact zz108
theorem cd3(x:Int)(w:World)(A:c8 w u s):Calls Tryz.prog 219 #[u,vi x] w fun e W=>e=.returned (vi (c93 s x:Nat))/\w=W:=by
 obtain⟨Q,c,d,rfl,L,a,l⟩:=A.op;have I:=j2 (c:=c) elI szI a;clear a A;go_in;go_wp2_with fail;go_loop [5,6] (fun n i=>∃k:Nat,k<=s.length/\i=vi k/\n=vi (bb1 s x k:Nat)) (fun _ i=>s.length-(intOf i).toNat);exact⟨0,om,rfl,rfl⟩
 obtain⟨k,V,rfl,rfl⟩:=hrel;have M:=c94 s x k;by_cases U:k<s.length;have C:=l k w U (er _);by_cases e:nth s k=x;exact zz89;exact zz73;have K:k=s.length:=om;subst K;go_wp2_with fail;exact zz108
theorem zz138{P:Prop}(h:P:=by refine zd fun W E=>?_;replace E:=z.trans E;go_wp2_with fail;go_roundw;exact⟨k+1,om,zg,by rw[P.o,t.o],E⟩;exact zm1):P:=h
theorem ct8(h:c8 w v l)(A:c8 w u (b9 X))(R:Hid (d7 l=true))(J:Hid (∀x∈X,x<24)):Calls Tryz.prog 260 #[.agg #[v],u] w (RE w (vi (sbs l X:Nat))):=by
 obtain⟨B,Z,F,C,H,E,d⟩:=m04 42 h;clear h;have N:=A.ext F;have q:X.length<=17592186044416:=by obtain⟨_,_,_,_,O,_⟩:=A;simpa[d9]using O
 obtain⟨Q,c,ar,rfl,a,e⟩:=N.nats;have j:=j2 (c:=c) elI szI a;clear a A N;go_in;go_wp2_with fail;rw[<-Z.o];go_loopw [5,10] (fun s i wr=>∃k:Nat,k<=X.length/\i=vi k/\s=vi (sbs l (X.take k):Nat)/\Ext B wr) (fun _ i _=>X.length-(intOf i).toNat);exact⟨0,om,rfl,rfl,E⟩
 clear E;obtain⟨k,V,rfl,rfl,E⟩:=hrel;by_cases U:k<X.length
 . have K:=J.o _ (m7 U);have S:=bj1 R.o (X.take k) fun y Y=>J.o y (pJ Y);have t:=zh (cz9 l (X.take k) (d5 X k));have P:=zh (K9 X k U);obtain⟨G,m⟩:=nq (sbs l (X.take k));rw[<-m]at S t|-;have L:=K8 R.o G (d5 X k);have b:=o6 (n:=d5 X k) om;have r:ior (G:Int) (j6 l G (d5 X k):Int)=((G ||| j6 l G (d5 X k):Nat):Int):=R5 om om;have T:=H9 (ox S L) K;have f:=fun W (D:Ext wr W)=>M8 v l G (d5 X k) W (H _ (E.trans D)) R S K;have p:=fun I=>e k _ U (E.trans (c9 wr I));have ha:=e k wr U E;have g:=fun I=>C _ (E.trans (c9 wr I));have z:=E;clear E m L;have E:=er wr;go_wp2_with fail;refine wl E ?_;(repeat(go_big_quiet_step(first|(go_at_call 196;exact oa (f _ (c9 wr _))))));exact zz138
 have M:k=X.length:=om;subst M;exact zz103
theorem bb0(h:c8 w v l)(A:c8 w u (b9 X))(R:Hid (d7 l=true))(J:Hid (∀x∈X,x<24)):Calls Tryz.prog 117 #[.agg #[v],u] w (RE w (vi (sbs l X:Nat))):=by
 obtain⟨B,Z,F,C,H,E,d⟩:=m04 42 h;clear h;have N:=A.ext F;have q:X.length<=17592186044416:=by obtain⟨_,_,_,_,O,_⟩:=A;simpa[d9]using O
 obtain⟨Q,c,ar,rfl,a,e⟩:=N.nats;have j:=j2 (c:=c) elI szI a;clear a A N;go_in;go_wp2_with fail;rw[<-Z.o];go_loopw [5,6] (fun s i wr=>∃k:Nat,k<=X.length/\i=vi k/\s=vi (sbs l (X.take k):Nat)/\Ext B wr) (fun _ i _=>X.length-(intOf i).toNat);exact⟨0,om,rfl,rfl,E⟩
 clear E;obtain⟨k,V,rfl,rfl,E⟩:=hrel;by_cases U:k<X.length
 . have K:=J.o _ (m7 U);have S:=bj1 R.o (X.take k) fun y Y=>J.o y (pJ Y);have t:=zh (cz9 l (X.take k) (d5 X k));have P:=zh (K9 X k U);obtain⟨G,m⟩:=nq (sbs l (X.take k));rw[<-m]at S t|-;have L:=K8 R.o G (d5 X k);have b:=o6 (n:=d5 X k) om;have r:ior (G:Int) (j6 l G (d5 X k):Int)=((G ||| j6 l G (d5 X k):Nat):Int):=R5 om om;have T:=H9 (ox S L) K;have f:=fun W (D:Ext wr W)=>M4 v l G (d5 X k) W (H _ (E.trans D)) R S K;have p:=fun I=>e k _ U (E.trans (c9 wr I));have ha:=e k wr U E;have g:=fun I=>C _ (E.trans (c9 wr I));have z:=E;clear E m L;have E:=er wr;go_wp2_with fail;refine wl E ?_;(repeat(go_big_quiet_step(first|(go_at_call 221;exact oa (f _ (c9 wr _))))));exact zz138
 have M:k=X.length:=om;subst M;exact zz103
theorem zz47{P:Prop}(h:P:=by go_in;go_wp2_with fail;rw[<-Z.o];refine cm (c _ E) fun G z=>?_;go_wp2_with fail;go_ret;exact⟨j1 N.o.symm,F.trans z⟩):P:=h
theorem zz84{P:Prop}(h:P:=by clear y Y;go_in;go_wp2_with fail;rw[<-Z.o];refine cm (c _ E) fun G z=>?_;have J:=C G z;go_wp2_with fail;refine cm (T _ z) fun m I=>?_;go_wp2_with fail;go_ret;exact⟨j1 N.o.symm,F.trans (z.trans I)⟩):P:=h
theorem bo4(h:c8 w v l)(A:c8 w u x):Calls Tryz.prog 263 #[.agg #[v],u] w (RE w (.bool (zsB l x))):=by
 obtain⟨B,Z,F,C,H,E,s⟩:=m04 42 h;clear h;have b:=C B E;have U:=zh (fun W (D:Ext B W)=>A.ext (F.trans D));cases S:q8 l x
 have N:=zh (d87 S);have c:=fun W (D:Ext B W)=>F6 v u l x W (H _ D) (U.o _ D) S;exact zz47;have c:=fun W (D:Ext B W)=>F6 v u l x W (H _ D) (U.o _ D) S;obtain⟨X,rfl,-,-,Y,y⟩:=I9 S;have N:=zh (de9 S);have T:=fun W (D:Ext B W)=>ba5 v u l X W (H _ D) (U.o _ D) (zh Y) (zh y);exact zz84
theorem bl4(h:c8 w v l)(A:c8 w u x):Calls Tryz.prog 119 #[.agg #[v],u] w (RE w (.bool (zsB l x))):=by
 obtain⟨B,Z,F,C,H,E,s⟩:=m04 42 h;clear h;have b:=C B E;have U:=zh (fun W (D:Ext B W)=>A.ext (F.trans D));cases S:q8 l x
 have N:=zh (d87 S);have c:=fun W (D:Ext B W)=>F5 v u l x W (H _ D) (U.o _ D) S;exact zz47;have c:=fun W (D:Ext B W)=>F5 v u l x W (H _ D) (U.o _ D) S;obtain⟨X,rfl,-,-,Y,y⟩:=I9 S;have N:=zh (de9 S);have T:=fun W (D:Ext B W)=>b63 v u l X W (H _ D) (U.o _ D) (zh Y) (zh y);exact zz84
theorem d92(h:c8 w v l)(A:c8 w u x):Calls Tryz.prog 179 #[.agg #[v],u] w (RE w (.bool (zfB l x))):=by
 obtain⟨B,Z,F,C,H,E,V⟩:=m04 42 h;clear h;have K:=C B E;have U:=zh (fun W (D:Ext B W)=>A.ext (F.trans D));cases S:q8 l x
 have N:=zh (l22 S);have c:=fun W (D:Ext B W)=>F6 v u l x W (H _ D) (U.o _ D) S;exact zz47;have c:=fun W (D:Ext B W)=>F6 v u l x W (H _ D) (U.o _ D) S;obtain⟨X,rfl,-,-,Y,y⟩:=I9 S;have N:=zh (ji9 S);have T:=fun W (D:Ext B W)=>ct8 v u l X W (H _ D) (U.o _ D) (zh Y) (zh y);have b:=bj1 Y X y;obtain⟨s,k⟩:=nq (sbs l X);rw[<-k]at b T N;clear y Y k;go_in;go_wp2_with fail;rw[<-Z.o];refine cm (c _ E) fun G z=>?_;have J:=C G z;go_wp2_with fail;refine cm (T _ z) fun m I=>?_;go_wp2_with(go_at_call 205;refine(dx5 s 0 b om _).mono ?_;rintro e P⟨rfl,rfl⟩);go_ret;exact⟨j1 (by rw[N.o];first|exact da1 s|rw[ps]),F.trans (z.trans I)⟩
theorem d69(h:c8 w v l)(A:c8 w u x):Calls Tryz.prog 122 #[.agg #[v],u] w (RE w (.bool (zfB l x))):=by
 obtain⟨B,Z,F,C,H,E,d⟩:=m04 42 h;clear h;have K:=C B E;have U:=zh (fun W (D:Ext B W)=>A.ext (F.trans D));cases S:q8 l x
 have N:=zh (l22 S);have c:=fun W (D:Ext B W)=>F5 v u l x W (H _ D) (U.o _ D) S;exact zz47;have c:=fun W (D:Ext B W)=>F5 v u l x W (H _ D) (U.o _ D) S;obtain⟨X,rfl,-,-,Y,y⟩:=I9 S;have N:=zh (ji9 S);have T:=fun W (D:Ext B W)=>bb0 v u l X W (H _ D) (U.o _ D) (zh Y) (zh y);have b:=bj1 Y X y;obtain⟨s,k⟩:=nq (sbs l X);rw[<-k]at b T N;clear y Y k;go_in;go_wp2_with fail;rw[<-Z.o];refine cm (c _ E) fun G z=>?_;have J:=C G z;go_wp2_with fail;refine cm (T _ z) fun m I=>?_;have V:=Z5 (a:=s) om;go_wp2_with fail;go_ret;exact⟨j1 (by rw[N.o];first|exact da1 s|rw[ps]),F.trans (z.trans I)⟩
def pcB(X:LN)(i:Nat):Ba:=if 1<c93 (b9 X) (d5 X i)then(j8 (d5 X i)++(⟨#[94]⟩:Ba))++j8 (c93 (b9 X) (d5 X i):Nat)else j8 (d5 X i)
def fqL(X:LN):Nat->List Ba
 |0=>[]
 |k+1=>if 0<k/\d5 X (k-1)=d5 X k then fqL X k else fqL X k++[pcB X k]
theorem dw0{X:LN}(H:0<k)(h:d5 X (k-1)=d5 X k):fqL X (k+1)=fqL X k:=by
 conv=>lhs;unfold fqL
 rw[if_pos ⟨H,h⟩]
theorem db3{X:LN}(h:¬(0<k/\d5 X (k-1)=d5 X k)):fqL X (k+1)=fqL X k++[pcB X k]:=by
 conv=>lhs;unfold fqL
 rw[if_neg h]
theorem bf7(X:LN):∀k,(fqL X k).length<=k
 |0=>oc _
 |k+1=>by
  have:=bf7 X k
  unfold fqL;split
  . omega
  . simp;omega
theorem dz3{X:LN}(h:X.length<=1000)(x:Int): -1<=((c93 (b9 X) x:Nat):Int)/\((c93 (b9 X) x:Nat):Int)<1000000000000:=by
 have:=c94 (b9 X) x (b9 X).length;rw[d9]at this;unfold c93;rw[d9];omega
theorem la9{X:LN}(h:X.length<=1000)(H:∀x∈X,x<24)(J:i<X.length):(pcB X i).size<=27:=by
 have o:=H _ (m7 J);have r:=m9 (n:=(d5 X i:Int)) om;have T:=m9 (dz3 h (d5 X i));unfold pcB;split;rw[oe,oe];have:(⟨#[94]⟩:Ba).size=1:=rfl;omega;omega
theorem bd8{X:LN}(h:X.length<=1000)(H:∀x∈X,x<24):∀k,k<=X.length->∀b∈fqL X k,b.size<=27
 |0,_,b,C=>by cases C
 | k+1,hk,b,C=>by
  have i:=bd8 h H k om
  unfold fqL at C
  split at C
  . exact i b C
  . rw[oP,oE]at C
    rcases C with C|rfl
    . exact i b C
    . exact la9 h H om
def sp1:Ba:=⟨#[32]⟩
def fqF(l x:LI):Ba:=if q8 l x then(if x.length=0 then⟨#[110,111,110,101]⟩else jn sp1 (m8 (fqL (x.map Int.toNat) x.length)) (fqL (x.map Int.toNat) x.length).length)else⟨#[]⟩
theorem c37{l x:LI}(h:q8 l x=false):fqF l x=⟨#[]⟩:=by unfold fqF;rw[h];rfl
theorem bk1{l x:LI}(h:q8 l x=true)(H:x.length=0):fqF l x=⟨#[110,111,110,101]⟩:=by unfold fqF;rw[h,if_pos rfl,if_pos H]
theorem bs1{l:LI}{X:LN}(h:q8 l (b9 X)=true)(H:¬X.length=0):fqF l (b9 X)=jn sp1 (m8 (fqL X X.length)) (fqL X X.length).length:=by
 unfold fqF;rw[h,if_pos rfl,d9,if_neg H,c91]
theorem zz17{P:Prop}(h:P:=by have hI:(1:Int)<(M:Int):=om;have p:Hid (pcB X k=(j8 (x:Int)++(⟨#[94]⟩:Ba))++j8 (M:Int)):=zh (by unfold pcB;rw[<-K,<-m,if_pos g]);clear K m s g;go_wp2_with(first|(go_at_call 77;with_reducible refine cm (j _) fun q I=>?_;have b:=r.trans I)|(go_at_call 249;refine(d _ b).mono ?_;rintro e' w'⟨rfl,rfl⟩)|(go_at_call 77;with_reducible refine cm (cJ _) fun w3 ha=>?_;have y:=I.trans ha)|(at_builtin;refine S4 rfl _ _ rfl G _ _ _ _ (O.ext y) (hF.trans y) t rfl rfl ?_;intro v1 w4 T L));go_roundw;exact⟨k+1,om,zg,by rw[P.o,p.o];exact T,L⟩;exact zm1):P:=h
theorem zz26{P:Prop}(h:P:=by have hI:¬(1:Int)<(M:Int):=om;have p:Hid (pcB X k=j8 (x:Int)):=zh (by unfold pcB;rw[<-K,<-m,if_neg g]);clear K m s g;go_wp2_with(first|(go_at_call 77;with_reducible refine cm (j _) fun q I=>?_;have b:=r.trans I)|(go_at_call 249;refine(d _ b).mono ?_;rintro e' w'⟨rfl,rfl⟩)|(at_builtin;refine S4 rfl _ _ rfl G _ _ _ _ (O.ext I) (hF.trans I) t rfl rfl ?_;intro v1 w4 T L));go_roundw;exact⟨k+1,om,zg,by rw[P.o,p.o];exact T,L⟩;exact zm1):P:=h
theorem zz49{P:Prop}(h:P:=by go_wp2_with fail;go_ret;exact⟨j5 N.o.symm,F.trans z⟩):P:=h
theorem bm9(R:LI)(w:World)(h:c8 w v l)(hu:c8 w u R):Calls Tryz.prog 162 #[.agg #[v],u] w (RE w (.string (fqF l R))):=by
 obtain⟨B,Z,F,C,H,E,Hz⟩:=m04 42 h;clear h;have hz:=C B E;have HU:=zh (fun W (D:Ext B W)=>hu.ext (F.trans D));cases S:q8 l R
 . have N:=zh (c37 S);have f:=fun W (D:Ext B W)=>F6 v u l R W (H _ D) (HU.o _ D) S;go_in;go_wp2_with fail;rw[<-Z.o];refine cm (f _ E) fun G z=>?_;exact zz49
 have f:=fun W (D:Ext B W)=>F6 v u l R W (H _ D) (HU.o _ D) S;obtain⟨X,rfl,-,hD,Y,A⟩:=I9 S;have hp:=hu.ext F;obtain⟨Q,c,ar,rfl,hr,hl⟩:=hp.nats;have he:=j2 (c:=c) elI szI hr;by_cases a:X.length=0
 . have N:=zh (bk1 S (by rw[d9];exact a));have hv:(((X.length:Nat):Int) == 0)=true:=(by rw[a];rfl);clear a A hl he hr;go_in;go_wp2_with fail;rw[<-Z.o];refine cm (f _ E) fun G z=>?_;exact zz49
 have N:=zh (bs1 S a);have hv:(((X.length:Nat):Int) == 0)=false:=by rw[beq_eq_false_iff_ne];omega
 have Hz:=zh (bd8 (X:=X) om A X.length (oc _));have Ha:=zh hl;have HX:=zh A;clear hr hl a S Y hu A;go_in;go_wp2_with fail;rw[<-Z.o];refine cm (f _ E) fun G z=>?_;have hj:=bg3 (er G);have hn:=(er G).alloc (.cells #[] 9);go_wp2_with fail;go_loopw [5,20] (fun ov iv wr=>∃k:Nat,k<=X.length/\iv=vi k/\N2 G wr ov (fqL X k)/\Ext G wr) (fun _ iv _=>X.length-(intOf iv).toNat);exact⟨0,om,rfl,hj,hn⟩
 clear hj hn;obtain⟨k,V,rfl,O,hF⟩:=hrel;have r:=z.trans hF;by_cases U:k<X.length
 . have ht:=HX.o _ (m7 U);have ho:=Ha.o k wr U r;by_cases s:0<k/\d5 X (k-1)=d5 X k
   . have P:=zh (dw0 s.1 s.2);have hm:(0:Int)<(k:Int):=om;have ia:∀W,(Instr.indexAt 40 (.slice Q X.length c) (vi ((k:Int)-1))).run Tryz.prog W=.ok (.pointer (some (ar (k-1)))) W:=fun W=>(by rw[show((k:Int)-1)=((k-1:Nat):Int) by omega];exact he _ W om);have hy:wr.cell? (ar (k-1))=some (vi (d5 X k:Int)):=(by rw[<-s.2];exact Ha.o (k-1) wr om r);clear s;go_wp2_with fail;go_roundw;exact⟨k+1,om,zg,by rw[P.o];exact O,hF⟩;exact zm1
   have P:=zh (db3 s);have hq:=bf7 X k;have t:(fqL X k).length<1000000:=om;obtain⟨x,K⟩:=nq (d5 X k);rw[<-K]at ho ht;have j:=fun W=>C0 (x:Int) om W;have d:=fun W (D:Ext B W)=>ce3 (.slice Q X.length c) (b9 X) (x:Int) W (HU.o _ D);have hf:=dz3 (X:=X) om (x:Int);obtain⟨M,m⟩:∃M,M=c93 (b9 X) (x:Int):=⟨_,rfl⟩;rw[<-m]at d hf;have cJ:=fun W=>C0 (M:Int) hf W;have hA:=m9 (n:=(x:Int)) om;have hC:=m9 hf;by_cases hm:0<k
   . have hw:(0:Int)<(k:Int):=om;have ia:∀W,(Instr.indexAt 40 (.slice Q X.length c) (vi ((k:Int)-1))).run Tryz.prog W=.ok (.pointer (some (ar (k-1)))) W:=fun W=>(by rw[show((k:Int)-1)=((k-1:Nat):Int) by omega];exact he _ W om);have hy:=Ha.o (k-1) wr om r;have hB:(((d5 X (k-1):Nat):Int) == (x:Int))=false:=by
      rw[beq_eq_false_iff_ne,K];intro e;exact s ⟨hm,om⟩
     by_cases g:1<M
     exact zz17
     exact zz26
   have hw:¬(0:Int)<(k:Int):=om;by_cases g:1<M;exact zz17;exact zz26
 have hh:k=X.length:=om;have hS:=(show N2 G wr _ (fqL X X.length) by rw[<-hh];exact O).strs;have hq:=bf7 X X.length;have hc:=dh3 _ (fqL X X.length) sp1 wr hS (by decide) (fun i J=>by
  have:=Hz.o (m8 (fqL X X.length) i) (by
   have:m8 (fqL X X.length) i=(fqL X X.length)[i]:=(by simp[m8,List.getD,J]);rw[this];exact qh J)
  omega) om
 clear hh;go_wp2_with(refine hc.mono ?_;rintro e q⟨rfl,rfl⟩);go_ret;exact⟨j5 N.o.symm,F.trans r⟩
theorem cy4(L:List Ba)(p:Ba)(J:i<L.length):m8 (L++[p]) i=m8 L i:=by
 simp[m8,List.getD,List.getElem?_append_left J]
theorem jw6(L:List Ba)(p:Ba):m8 (L++[p]) L.length=p:=by simp[m8,List.getD]
theorem ju4(s:Ba)(L:List Ba)(p:Ba)(h:0<L.length):jn s (m8 (L++[p])) (L++[p]).length=(jn s (m8 L) L.length++s)++p:=by
 rw[oh,oo,b42 _ _ h,jw6,bv0 s _ (m8 L) L.length fun i J=>cy4 L p J]
theorem ju5(s:Ba)(L:List Ba)(p:Ba)(h:L.length=0):jn s (m8 (L++[p])) (L++[p]).length=jn s (m8 L) L.length++p:=by
 have H:L=[]:=oF h;subst H;rfl
theorem db4{X:LN}:∀k,0<k->0<(fqL X k).length
 |0,h=>by omega
 |k+1,_=>by
  unfold fqL
  split
  . next h=>exact db4 k h.1
  . simp
theorem lb0{X:LN}(h:∀x∈X,x<24)(J:i<X.length):1<=(pcB X i).size:=by
 have o:=h _ (m7 J);have r:=bf6 (n:=(d5 X i:Int)) om;unfold pcB;split;rw[oe,oe];omega;exact r
theorem dw1{X:LN}(h:∀x∈X,x<24):∀k,k<=X.length->∀b∈fqL X k,1<=b.size
 |0,_,b,C=>by cases C
 | k+1,hk,b,C=>by
  have i:=dw1 h k om
  unfold fqL at C
  split at C
  . exact i b C
  . rw[oP,oE]at C
    rcases C with C|rfl
    . exact i b C
    . exact lb0 h om
theorem J8{L:List Ba}(h:i<L.length):m8 L i∈L:=by
 have:m8 L i=L[i]:=by simp[m8,List.getD,h]
 rw[this];exact qh h
theorem bj6(xs:LI)(w:World)(h:c8 w v l)(hu:c8 w u xs):Calls Tryz.prog 113 #[.agg #[v],u] w (RE w (.string (fqF l xs))):=by
 obtain⟨B,Z,F,C,H,E,Hz⟩:=m04 42 h;clear h;have HU:=zh (fun W (D:Ext B W)=>hu.ext (F.trans D));cases S:q8 l xs
 . have N:=zh (c37 S);have f:=fun W (D:Ext B W)=>F5 v u l xs W (H _ D) (HU.o _ D) S;have hL:=C B E;obtain⟨Q,c,ar,rfl,hG,-,-⟩:=hu.op;clear S hu;go_in;go_wp2_with fail;rw[<-Z.o];go_loopw [5,6] (fun sv iv wr=>sv=.string ⟨#[]⟩/\iv=vi 0/\Ext B wr) (fun _ _ _=>0);exact⟨rfl,rfl,E⟩;case round =>
    obtain⟨rfl,rfl,r⟩:=hrel;have hp:(⟨#[]⟩:Ba).toList.isEmpty=true:=(by rw[pi];rfl);have hC:=C _ r;by_cases hq:(0:Int)<(xs.length:Int)
    ·
       have q:=r
       clear r
       go_wp2_with(go_at_call 115;refine cm (f _ q) fun w' hc=>?_;replace q:=q.trans hc;clear hc)
       go_ret
       exact⟨j5 N.o.symm,F.trans q⟩
    ·
       have q:=r
       clear r
       go_wp2_with(go_at_call 115;refine cm (f _ q) fun w' hc=>?_;replace q:=q.trans hc;clear hc)
       go_ret
       exact⟨j5 N.o.symm,F.trans q⟩
 have f:=fun W (D:Ext B W)=>F5 v u l xs W (H _ D) (HU.o _ D) S;obtain⟨X,rfl,-,hN,Y,hX⟩:=I9 S;have hA:=hu.ext F;obtain⟨Q,c,ar,rfl,hr,hn⟩:=hA.nats;have hw:=j2 (c:=c) elI szI hr;have p:=zh hn;have HX:=zh hX;have Ha:=zh S;have Hz:=zh (bd8 (X:=X) om hX);have Ho:=zh (dw1 (X:=X) hX);clear hr hn S Y hu hX;go_in;go_wp2_with fail;rw[<-Z.o];go_loopw [5,6] (fun sv iv wr=>∃(k:Nat) (s:Ba),k<=X.length/\iv=vi k/\sv=.string s/\Hid (s=jn sp1 (m8 (fqL X k)) (fqL X k).length)/\Ext B wr) (fun _ iv _=>X.length-(intOf iv).toNat);exact⟨0,_,om,rfl,rfl,zh rfl,E⟩
 clear E;obtain⟨k,s,V,rfl,rfl,t,r⟩:=hrel;have hC:=C _ r;have ho:=bf7 X k;have hS:s.size<=60012:=by
  rw[t.o];have:=cx2 sp1 (m8 (fqL X k)) (by decide) (fqL X k).length (fun i J=>by have:=Hz.o k V _ (J8 J);omega);omega
 by_cases U:k<X.length
 . have hD:=HX.o _ (m7 U);have hy:=p.o k wr U r;obtain⟨x,K⟩:=nq (d5 X k);have a:=zh K;rw[<-K]at hy hD;have cI:=fun W=>o8 (x:Int) om W;have cM:=fun W (D:Ext B W)=>cd3 (.slice Q X.length c) (b9 X) (x:Int) W (HU.o _ D);have hj:=dz3 (X:=X) om (x:Int);obtain⟨M,d⟩:∃M,M=c93 (b9 X) (x:Int):=⟨_,rfl⟩;rw[<-d]at cM hj;have cJ:=fun W=>o8 (M:Int) hj W;have hH:=m9 (n:=(x:Int)) om;have hK:=m9 hj;by_cases hf:0<k
   . have ht:(0:Int)<(k:Int):=om;have hh:=db4 (X:=X) k hf;have hp:s.toList.isEmpty=false:=by
      rw[t.o];exact b32 (bg0 _ _ _ hh fun i J=>Ho.o k V _ (J8 J))
     have ia:∀W,(Instr.indexAt 40 (.slice Q X.length c) (vi ((k:Int)-1))).run Tryz.prog W=.ok (.pointer (some (ar (k-1)))) W:=fun W=>(by rw[show((k:Int)-1)=((k-1:Nat):Int) by omega];exact hw _ W om);by_cases A:0<k/\d5 X (k-1)=d5 X k
     . have G:=zh (dw0 A.1 A.2);have Hq:=zh A.2;clear A K d;go_wp2_with(go_at_call 115;refine cm (f _ r) fun m I=>?_);have b:=r.trans I;have E:=er m;have y:=fun L=>p.o k _ U (b.trans (c9 m L));have hm:=fun L=>p.o (k-1) _ om (b.trans (c9 m L));rw[Hq.o]at hm;refine wl E ?_;(repeat(go_big_quiet_step(first|(fail "no call"))));refine zd fun W E=>?_;go_wp2_with fail;go_roundw;exact⟨k+1,s,om,zg,rfl,by rw[G.o];exact t,b.trans E⟩;exact zm1
     have hJ:((x:Int) == ((d5 X (k-1):Nat):Int))=false:=by
      rw[beq_eq_false_iff_ne,K];intro e;exact A ⟨hf,om⟩
     have G:=zh (db3 A)
     by_cases g:1<M
     . have hI:(1:Int)<(M:Int):=by omega
       have P:Hid (pcB X k=(j8 (x:Int)++(⟨#[94]⟩:Ba))++j8 (M:Int)):=zh (by unfold pcB;rw[<-K,<-d,if_pos g])
       have z:Hid (((((s++(⟨#[32]⟩:Ba))++j8 (x:Int))++(⟨#[94]⟩:Ba))++j8 (M:Int))=jn sp1 (m8 (fqL X (k+1))) (fqL X (k+1)).length):=zh (by
        rw[G.o,P.o,ju4 _ _ _ hh,<-t.o];simp only[ByteArray.append_assoc];rfl)
       clear K d A g P G
       go_wp2_with(go_at_call 115;refine cm (f _ r) fun m I=>?_)
       have b:=r.trans I
       have E:=er m
       have y:=fun L=>p.o k _ U (b.trans (c9 m L))
       have hm:=fun L=>p.o (k-1) _ om (b.trans (c9 m L))
       rw[<-a.o]at y
       refine wl E ?_;(repeat(go_big_quiet_step(first|(fail "no call"))));refine zd fun W E=>?_
       have O:=b.trans E
       have ha:=p.o k _ U O
       rw[<-a.o]at ha
       go_wp2_with(first|(go_at_call 97;with_reducible refine cm (cI _) fun w3 R=>?_;have j:=O.trans R;have hV:=p.o k _ U j;rw[<-a.o]at hV)|(go_at_call 219;refine(cM _ j).mono ?_;rintro e' w'⟨rfl,rfl⟩)|(go_at_call 97;with_reducible refine cm (cJ _) fun w4 T=>?_;have he:=j.trans T))
       go_roundw
       case rel=>exact⟨k+1,_,om,zg,rfl,z,he⟩
       case measure=>exact zm1
     have hI:¬(1:Int)<(M:Int):=by omega
     have P:Hid (pcB X k=j8 (x:Int)):=zh (by unfold pcB;rw[<-K,<-d,if_neg g])
     have z:Hid (((s++(⟨#[32]⟩:Ba))++j8 (x:Int))=jn sp1 (m8 (fqL X (k+1))) (fqL X (k+1)).length):=zh (by
      rw[G.o,P.o,ju4 _ _ _ hh,<-t.o];rfl)
     clear K d A g P G
     go_wp2_with(go_at_call 115;refine cm (f _ r) fun m I=>?_)
     have b:=r.trans I
     have E:=er m
     have y:=fun L=>p.o k _ U (b.trans (c9 m L))
     have hm:=fun L=>p.o (k-1) _ om (b.trans (c9 m L))
     rw[<-a.o]at y
     refine wl E ?_;(repeat(go_big_quiet_step(first|(fail "no call"))));refine zd fun W E=>?_
     have O:=b.trans E
     have ha:=p.o k _ U O
     rw[<-a.o]at ha
     go_wp2_with(first|(go_at_call 97;with_reducible refine cm (cI _) fun w3 R=>?_;have j:=O.trans R;have hV:=p.o k _ U j;rw[<-a.o]at hV)|(go_at_call 219;refine(cM _ j).mono ?_;rintro e' w'⟨rfl,rfl⟩)|(go_at_call 97;with_reducible refine cm (cJ _) fun w4 T=>?_;have he:=j.trans T))
     go_roundw
     case rel=>exact⟨k+1,_,om,zg,rfl,z,j⟩
     case measure=>exact zm1
   have ht:¬(0:Int)<(k:Int):=om;have hz:k=0:=om;have hv:(fqL X k).length=0:=(by rw[hz];rfl);have hp:s.toList.isEmpty=true:=by
    rw[t.o,hz,pi];rfl
   have A:¬(0<k/\d5 X (k-1)=d5 X k):=fun e=>hf e.1;clear hz;have G:=zh (db3 A);by_cases g:1<M
   . have hI:(1:Int)<(M:Int):=om;have P:Hid (pcB X k=(j8 (x:Int)++(⟨#[94]⟩:Ba))++j8 (M:Int)):=zh (by unfold pcB;rw[<-K,<-d,if_pos g]);have z:Hid ((((s++j8 (x:Int))++(⟨#[94]⟩:Ba))++j8 (M:Int))=jn sp1 (m8 (fqL X (k+1))) (fqL X (k+1)).length):=zh (by
      rw[G.o,P.o,ju5 _ _ _ hv,<-t.o];simp only[ByteArray.append_assoc])
     clear K d A g P G;go_wp2_with(go_at_call 115;refine cm (f _ r) fun m I=>?_);have b:=r.trans I;have E:=er m;have y:=fun L=>p.o k _ U (b.trans (c9 m L));rw[<-a.o]at y;refine wl E ?_;(repeat(go_big_quiet_step(first|(fail "no call"))));refine zd fun W E=>?_;have O:=b.trans E;have ha:=p.o k _ U O;rw[<-a.o]at ha;go_wp2_with(first|(go_at_call 97;with_reducible refine cm (cI _) fun w3 R=>?_;have j:=O.trans R;have hV:=p.o k _ U j;rw[<-a.o]at hV)|(go_at_call 219;refine(cM _ j).mono ?_;rintro e' w'⟨rfl,rfl⟩)|(go_at_call 97;with_reducible refine cm (cJ _) fun w4 T=>?_;have he:=j.trans T));go_roundw;exact⟨k+1,_,om,zg,rfl,z,he⟩;exact zm1
   have hI:¬(1:Int)<(M:Int):=om;have P:Hid (pcB X k=j8 (x:Int)):=zh (by unfold pcB;rw[<-K,<-d,if_neg g]);have z:Hid ((s++j8 (x:Int))=jn sp1 (m8 (fqL X (k+1))) (fqL X (k+1)).length):=zh (by
    rw[G.o,P.o,ju5 _ _ _ hv,<-t.o])
   clear K d A g P G;go_wp2_with(go_at_call 115;refine cm (f _ r) fun m I=>?_);have b:=r.trans I;have E:=er m;have y:=fun L=>p.o k _ U (b.trans (c9 m L));rw[<-a.o]at y;refine wl E ?_;(repeat(go_big_quiet_step(first|(fail "no call"))));refine zd fun W E=>?_;have O:=b.trans E;have ha:=p.o k _ U O;rw[<-a.o]at ha;go_wp2_with(first|(go_at_call 97;with_reducible refine cm (cI _) fun w3 R=>?_;have j:=O.trans R;have hV:=p.o k _ U j;rw[<-a.o]at hV)|(go_at_call 219;refine(cM _ j).mono ?_;rintro e' w'⟨rfl,rfl⟩)|(go_at_call 97;with_reducible refine cm (cJ _) fun w4 T=>?_;have he:=j.trans T));go_roundw;exact⟨k+1,_,om,zg,rfl,z,j⟩;exact zm1
 have hl:k=X.length:=om;have ht:¬(k:Int)<(X.length:Int):=om;by_cases h0:X.length=0
 . have hp:s.toList.isEmpty=true:=by
    rw[t.o,hl,h0,pi];rfl
   have Hv:Hid (fqF l (b9 X)=⟨#[110,111,110,101]⟩):=zh (bk1 Ha.o (by rw[d9];exact h0))
   clear hl h0 ho
   go_wp2_with(go_at_call 115;refine cm (f _ r) fun m I=>?_)
   go_ret
   exact⟨j5 Hv.o.symm,F.trans (r.trans I)⟩
 have hp:s.toList.isEmpty=false:=by
  rw[t.o];exact b32 (bg0 _ _ _ (db4 (X:=X) k om) fun i J=>Ho.o k V _ (J8 J))
 have Hv:Hid (fqF l (b9 X)=s):=zh (by rw[bs1 Ha.o h0,t.o,hl]);clear hl h0 ho;go_wp2_with fail;go_ret;exact⟨j5 Hv.o.symm,F.trans r⟩
def nxS(l:LI)(S x:Nat):Nat:=(S ||| j6 l S x) ||| 2^x
theorem bv2{l:LI}(H:d7 l=true){S x:Nat}(h:S<2^ord l)(K:x<ord l):nxS l S x<2^ord l :=
 ox (ox h (b56 (m0 H) S x)) (oJ om K)
theorem be2{l:LI}(H:d7 l=true){S x:Nat}(s:S<2^ord l)(T:S.testBit 0=false)(K:x<ord l):cnt S<cnt (nxS l S x):=by
 have b:=l8 H;have e:S<2^24:=nlt s (ot om b.2);have t:S ||| 2^0<2^ord l:=ox s (oJ om om)
 have o:=bf2 H t x;rw[c74 e om T]at o;have u:Sub (j6 l (S ||| 2^0) x) (nxS l S x):=fun i J=>by
  obtain⟨y,Y,C,h⟩:=E8.1 J
  unfold nxS
  rw[oN,oN]
  rw[oN,pd]at C
  by_cases w:y=0
  subst w
  rw[E4,C9 l (m0 H) x K]at h
  subst h
  simp
  have j:S.testBit y=true:=by simpa[show ¬0=y by omega]using C
  have:(j6 l S x).testBit i=true:=E8.2 ⟨y,Y,j,h⟩
  rw[this];simp
 have:=cv6 u;omega
def zfS(l:LI):Nat->LN->Nat->Nat->LN
 |0,X,_,_=>X
 |f+1,X,S,m=>(List.range (ord l)).foldl (fun (b:LN) (x:Nat)=>if x<m then b else if (nxS l S x).testBit 0 then b else if b.length<(zfS l f (X++[x]) (nxS l S x) x).length then zfS l f (X++[x]) (nxS l S x) x else b) X
def zfK(l:LI)(f:Nat)(X:LN)(S m k:Nat):LN:=(List.range k).foldl (fun (b:LN) (x:Nat)=>if x<m then b else if (nxS l S x).testBit 0 then b else if b.length<(zfS l f (X++[x]) (nxS l S x) x).length then zfS l f (X++[x]) (nxS l S x) x else b) X
theorem lq1:zfS l (f+1) X S m=zfK l f X S m (ord l):=rfl
theorem l26:zfK l f X S m m=X:=by
 unfold zfK;have:∀k,k<=m->(List.range k).foldl (fun (b:LN) (x:Nat)=>if x<m then b else if (nxS l S x).testBit 0 then b else if b.length<(zfS l f (X++[x]) (nxS l S x) x).length then zfS l f (X++[x]) (nxS l S x) x else b) X=X:=by
  intro k;induction k with
  |zero=>intro _;rfl
  |succ k ih =>
   intro V;rw[oW,oH,ih om];simp only[oR,py];rw[if_pos om]
 exact this m (oc _)
theorem ly9{l:LI}{f:Nat}{X:LN}{S m:Nat}(h:(nxS l S k).testBit 0=true):zfK l f X S m (k+1)=zfK l f X S m k:=by
 unfold zfK;rw[oW,oH];simp only[oR,py];split;rfl;first|rfl|rw[if_pos h]
theorem lf0{l:LI}{f:Nat}{X:LN}{S m:Nat}(H:m<=k)(h:(nxS l S k).testBit 0=false)(q:(zfK l f X S m k).length<(zfS l f (X++[k]) (nxS l S k) k).length):zfK l f X S m (k+1)=zfS l f (X++[k]) (nxS l S k) k:=by
 unfold zfK at q|-;rw[oW,oH];simp only[oR,py];rw[if_neg om,if_neg (by rw[h];simp),if_pos q]
theorem le9{l:LI}{f:Nat}{X:LN}{S m:Nat}(H:m<=k)(h:(nxS l S k).testBit 0=false)(q:¬(zfK l f X S m k).length<(zfS l f (X++[k]) (nxS l S k) k).length):zfK l f X S m (k+1)=zfK l f X S m k:=by
 unfold zfK at q|-;rw[oW,oH];simp only[oR,py];rw[if_neg om,if_neg (by rw[h];simp),if_neg q]
def zfI(l:LI):Nat->LN->Nat->Nat->LN->LN
 |0,X,_,_,b=>if b.length<X.length then X else b
 |f+1,X,S,m,b=>(List.range (ord l)).foldl (fun (b:LN) (x:Nat)=>if x<m then b else if (nxS l S x).testBit 0 then b else zfI l f (X++[x]) (nxS l S x) x b) (if b.length<X.length then X else b)
def L4(l:LI)(f:Nat)(X:LN)(S m:Nat)(b:LN)(k:Nat):LN:=(List.range k).foldl (fun (b:LN) (x:Nat)=>if x<m then b else if (nxS l S x).testBit 0 then b else zfI l f (X++[x]) (nxS l S x) x b) (if b.length<X.length then X else b)
theorem l25:zfI l (f+1) X S m b=L4 l f X S m b (ord l):=rfl
theorem jb8:L4 l f X S m b m=if b.length<X.length then X else b:=by
 unfold L4;have:∀k,k<=m->∀B:LN,(List.range k).foldl (fun (b:LN) (x:Nat)=>if x<m then b else if (nxS l S x).testBit 0 then b else zfI l f (X++[x]) (nxS l S x) x b) B=B:=by
  intro k;induction k with
  |zero=>intro _ _;rfl
  |succ k ih =>
   intro V B;rw[oW,oH,ih om];simp only[oR,py];rw[if_pos om]
 exact this m (oc _) _
theorem j73{l:LI}{f:Nat}{X:LN}{S m:Nat}{b:LN}(h:(nxS l S k).testBit 0=true):L4 l f X S m b (k+1)=L4 l f X S m b k:=by
 unfold L4;rw[oW,oH];simp only[oR,py];split;rfl;first|rfl|rw[if_pos h]
theorem dl2{l:LI}{f:Nat}{X:LN}{S m:Nat}{b:LN}(H:m<=k)(h:(nxS l S k).testBit 0=false):L4 l f X S m b (k+1)=zfI l f (X++[k]) (nxS l S k) k (L4 l f X S m b k):=by
 unfold L4;rw[oW,oH];simp only[oR,py];rw[if_neg om,if_neg (by rw[h];simp)]
theorem l23:∀(f:Nat) (X:LN) (S m:Nat) (b:LN),zfI l f X S m b=if b.length<(zfS l f X S m).length then zfS l f X S m else b:=by
 intro f;induction f with
 |zero=>intro X S m b;rfl
 | succ f ih =>
  intro X S m b;unfold zfI zfS;have k:∀(L:LN) (R:LN),L.foldl (fun (b:LN) (x:Nat)=>if x<m then b else if (nxS l S x).testBit 0 then b else zfI l f (X++[x]) (nxS l S x) x b) (if b.length<R.length then R else b) =
   if b.length<(L.foldl (fun (b:LN) (x:Nat)=>if x<m then b else if (nxS l S x).testBit 0 then b else if b.length<(zfS l f (X++[x]) (nxS l S x) x).length then zfS l f (X++[x]) (nxS l S x) x else b) R).length then L.foldl (fun (b:LN) (x:Nat)=>if x<m then b else if (nxS l S x).testBit 0 then b else if b.length<(zfS l f (X++[x]) (nxS l S x) x).length then zfS l f (X++[x]) (nxS l S x) x else b) R else b:=by
   intro L;induction L with
   |nil=>intro R;rfl
   | cons x L ihL =>
    intro R;rw[oR,oR];by_cases o:x<m
    . rw[if_pos o,if_pos o];exact ihL R
    . rw[if_neg o,if_neg o];by_cases r:(nxS l S x).testBit 0=true
      . rw[if_pos r,if_pos r];exact ihL R
      . rw[if_neg r,if_neg r,ih];have e:(if (if b.length<R.length then R else b).length<(zfS l f (X++[x]) (nxS l S x) x).length then zfS l f (X++[x]) (nxS l S x) x else if b.length<R.length then R else b) =
         if b.length<(if R.length<(zfS l f (X++[x]) (nxS l S x) x).length then zfS l f (X++[x]) (nxS l S x) x else R).length then(if R.length<(zfS l f (X++[x]) (nxS l S x) x).length then zfS l f (X++[x]) (nxS l S x) x else R)else b:=by
         by_cases p:b.length<R.length<;>by_cases P:R.length<(zfS l f (X++[x]) (nxS l S x) x).length<;>by_cases g:b.length<(zfS l f (X++[x]) (nxS l S x) x).length<;>simp[p,P,g]<;>omega
        rw[e];exact ihL _
  exact k (List.range (ord l)) X
theorem l27{l:LI}(H:d7 l=true):∀(f:Nat) (X:LN) (S m:Nat),S<2^ord l->S.testBit 0=false->(∀x∈X,x<ord l)->X.length<=cnt S->(∀x∈zfS l f X S m,x<ord l)/\(zfS l f X S m).length<=24:=by
 intro f;induction f with
 |zero=>intro X S m s T u i;exact⟨u,nle i (p8 S)⟩
 | succ f ih =>
  intro X S m s T u i;unfold zfS;have k:∀(L:LN),(∀x∈L,x<ord l)->∀r:LN,((∀x∈r,x<ord l)/\r.length<=24)->((∀x∈L.foldl (fun (b:LN) (x:Nat)=>if x<m then b else if (nxS l S x).testBit 0 then b else if b.length<(zfS l f (X++[x]) (nxS l S x) x).length then zfS l f (X++[x]) (nxS l S x) x else b) r,x<ord l)/\(L.foldl (fun (b:LN) (x:Nat)=>if x<m then b else if (nxS l S x).testBit 0 then b else if b.length<(zfS l f (X++[x]) (nxS l S x) x).length then zfS l f (X++[x]) (nxS l S x) x else b) r).length<=24):=by
   intro L;induction L with
   |nil=>intro _ r R;exact R
   | cons x L ihL =>
    intro W r R;rw[oR];refine ihL (fun y h=>W y (by simp[h])) _ ?_;split
    . exact R
    . split
      . exact R
      . next h2 =>
         split
         . have K:=W x zm;refine ih (X++[x]) (nxS l S x) x (bv2 H s K) (by simpa using h2) ?_ ?_
           . intro y h;rw[oP,oE]at h;rcases h with h|rfl
             . exact u y h
             . exact K
           . have:=be2 H s T K;simp;omega
         . exact R
  exact k (List.range (ord l)) (fun x K=>ou.1 K) X ⟨u,nle i (p8 S)⟩
def lzB(l:LI):Bool:=d7 l&&decide (ord l<=9)
def lzL(l:LI):LN:=if lzB l then zfS l (ord l+1) [] 0 1 else []
theorem dn8{l:LI}(h:lzB l=false):lzL l=[]:=by unfold lzL;rw[h];rfl
theorem jv7{l:LI}(h:lzB l=true):lzL l=zfS l (ord l+1) [] 0 1:=by unfold lzL;rw[h];rfl
def LiP(P:World)(Y:LN)(s:Value)(w:World):Prop:=∃Q c,s=.slice Q Y.length c/\c8 w (.slice Q Y.length c) (b9 Y)/\Ext P w
theorem ln5(R:Hid (d7 l=true)):∀(f:Nat) (X:LN) (S m:Nat) (V:Value) (w:World),c8 w v l->c8 w V (b9 X)->S<2^ord l->S.testBit 0=false->m<=ord l->ord l<cnt S+f->X.length<=cnt S->(∀x∈X,x<ord l) ->
 Calls Tryz.prog 215 #[.agg #[v],V,vi S,vi m] w fun e w'=>∃Q c,e=.returned (.slice Q (zfS l f X S m).length c)/\c8 w' (.slice Q (zfS l f X S m).length c) (b9 (zfS l f X S m))/\Ext w w':=by
 intro f;induction f with
 |zero=>intro X S m V w h u s h0 hm hf;have:=bf1 R.o s;omega
 | succ f ih =>
  intro X S m V w h u s h0 hm hf hQ ho;have hO:=l8 R.o;have hp:=E7 R.o;have hk:S<2^24:=nlt s hp;have hZ:=p8 S;obtain⟨aX,cX,-,rfl,-,-,-⟩:=u.op;rw[d9]at u|-;obtain⟨B,Z,F,C,H,E,Hz⟩:=m04 42 h;clear h;have HX:=zh (fun W (D:Ext B W)=>u.ext (F.trans D));have Hh:=zh ih;clear ih u;have He:=zh (lq1 l f X S m);have Ht:=zh (l26 l f X S m);go_in;go_wp2_with fail;rw[<-Z.o];go_loopw [9,10] (fun bv d wr=>∃(k:Nat) (Q:Option Addr) (c:Nat),m<=k/\k<=ord l/\d=vi k/\bv=.slice Q (zfK l f X S m k).length c/\c8 wr (.slice Q (zfK l f X S m k).length c) (b9 (zfK l f X S m k))/\Ext B wr) (fun _ d _=>ord l-(intOf d).toNat);exact⟨m,aX,cX,oc _,hm,rfl,by rw[Ht.o],by rw[Ht.o];exact HX.o _ E,E⟩
  case round =>
   clear E;obtain⟨k,i,K,he,hT,rfl,rfl,ha,E⟩:=hrel;have cO:=o4 v l wr (H _ E) R;have HB:=zh ha;have ac:(zfK l f X S m k).length<=17592186044416:=(by obtain⟨_,_,_,_,h',_⟩:=ha;simpa[d9]using h');have Ho:=zh (fun h=>ly9 (l:=l) (f:=f) (X:=X) (S:=S) (m:=m) (k:=k) h);have Hb:=zh (fun h=>lf0 (l:=l) (f:=f) (X:=X) (S:=S) (m:=m) (k:=k) he h);have Ha:=zh (fun h=>le9 (l:=l) (f:=f) (X:=X) (S:=S) (m:=m) (k:=k) he h);clear ha;by_cases U:k<ord l
   . have hn:k<24:=om;have b:=bv2 R.o s U;have hJ:=be2 R.o s h0 U;have hH:nxS l S k<2^24:=nlt b hp;have hA:=K8 R.o S k;have q1:=o6 (n:=k) om;have q2:ior (S:Int) (j6 l S k:Int)=((S ||| j6 l S k:Nat):Int):=R5 om om;have q3:ior ((S ||| j6 l S k:Nat):Int) ((pw k:Nat):Int)=((nxS l S k:Nat):Int):=H9 (ox hk hA) hn;obtain⟨A,P⟩:=nq (nxS l S k);rw[<-P]at b hJ hH q3 Ho Hb Ha;have q4:=Z5 (a:=A) om;have cS:=fun W (D:Ext B W)=>M4 v l S k W (H _ D) R hk hn;have Hd:=zh P;clear P;go_wp2_with(go_at_call 103;refine cm cO fun G z=>?_);have p:=E.trans z;have hx:=fun UU=>C _ (p.trans (c9 G UU));have hj:=p;clear E p;have E:=er G;refine wl E ?_;(repeat(go_big_quiet_step(first|(go_at_call 221;exact oa (cS _ (hj.trans (c9 G _)))))));refine zd fun W E=>?_;rename World=>w2;have I:=hj.trans E;have hu:=HB.o.ext (z.trans E);clear hx cS;cases t:A.testBit 0
     . have hC:(((A%2:Nat):Int) == 1)=false:=by
        rw[ps,decide_eq_false_iff_not]at t;rw[beq_eq_false_iff_ne];omega
       have r:=fun W (D:Ext B W) vN (hI:c8 W vN (b9 (X++[k])))=>Hh.o (X++[k]) A k vN W (H _ D) hI b t om om zso (by intro y Y;rw[oP,oE]at Y;rcases Y with Y|rfl;exact ho y Y;exact U)
       obtain⟨L,J⟩:=nq (zfS l f (X++[k]) A k)
       have ad:L.length<=24:=by rw[J];exact(l27 R.o f (X++[k]) A k b t (by intro y Y;rw[oP,oE]at Y;rcases Y with Y|rfl;exact ho y Y;exact U) zso).2
       have hr:=zh (Hb.o t)
       have hv:=zh (Ha.o t)
       rw[<-J]at r hr hv
       have Hw:=zh (fun W (D:Ext w2 W)=>HX.o W (I.trans D))
       have hz:(b9 X).length+[(k:Int)].length<=17592186044416:=by rw[d9];simp;omega
       have hw:=sh I C
       have hs:=sh I r
       clear J t r
       have ab:=E
       clear E
       have E:=er w2
       have g:b9 (X++[k])=b9 X++[(k:Int)]:=by simp[b9]
       rw[g]at hs
       have Hl:=zh g
       clear g
       go_upto_region 7 with fail
       go_cut [12] (fun sa wx=>LiP w2 L sa wx)
       case first =>
        (first|(go_region_held3 (fun W=>Ext w2 W/\W.cell? (aD w.heap.size 0)=some v) (exact⟨xq,hw _ xq⟩) (first|(go_at_call 215;have hL:=hD;(with_reducible refine od (hs _ xq _ (N7.own hL (er _)).ints) ?_);rintro eF wF⟨j,M,rfl,hc,hG⟩;have hM:=og (a:=w2) xq hG)|(have hR:=O;refine q9 slI rfl _ _ rfl w2 w2 _ _ (b9 X) [(k:Int)] (Or.inr (by first|exact O|exact O.alloc _|exact(O.alloc _).drew)) (Blk.ints1 (T:=3) zq1) xq hz rfl rfl ?_;intro vD wD hD hP hU)|(refine Q6 slI rfl _ _ rfl _ _ (b9 X) rfl rfl zq0 (Hw.o _ xq) w2 (by first|exact oc _|omega|(simp;omega)) xq ?_;intro aC cC wC O aa hEC;have hV:=og (a:=w2) xq hEC)))|(fail "the region"));all_goals(go_wp2_with fail;go_meet;exact⟨j,M,rfl,hc,hM⟩)
       case rest =>
        obtain⟨j,M,rfl,hc,hh⟩:=hcut;have hi:=I.trans hh;by_cases q:(zfK l f X S m k).length<L.length
        . have N:=zh (hr.o q);have hK:(((zfK l f X S m k).length:Nat):Int)<((L.length:Nat):Int):=om;clear q;go_wp2_with fail;go_roundw;exact⟨k+1,j,M,om,om,zg,by rw[N.o],by rw[N.o];exact hc,hi⟩;exact zm1
        . have N:=zh (hv.o q);have hK:¬(((zfK l f X S m k).length:Nat):Int)<((L.length:Nat):Int):=om;clear q;go_wp2_with fail;go_roundw;exact⟨k+1,i,K,om,om,zg,by rw[N.o],by rw[N.o];exact hu.ext hh,hi⟩;exact zm1
     . have hC:(((A%2:Nat):Int) == 1)=true:=by
        rw[ps,decide_eq_true_iff]at t;rw[t];rfl
       have N:=zh (Ho.o t)
       clear t
       go_wp2_with fail
       go_roundw
       case rel=>exact⟨k+1,i,K,om,om,zg,by rw[N.o],by rw[N.o];exact hu,I⟩
       case measure=>exact zm1
   . have hl:k=ord l:=om;have N:=zh (show zfS l (f+1) X S m=zfK l f X S m k by rw[He.o,hl]);clear hl;go_wp2_with(go_at_call 103;refine cm cO fun G z=>?_);go_ret;exact⟨i,K,by rw[N.o];rfl,by rw[N.o];exact HB.o.ext z,F.trans (E.trans z)⟩
theorem zz40{P:Prop}(h:P:=by have b:lzB l=false:=(by unfold lzB;rw[Y];rfl);have N:=zh (And.intro b (dn8 b));rw[Y]at g;clear b;go_in;go_wp2_with fail;rw[<-Z.o];refine cm g fun G z=>?_;go_wp2_with fail;have f:=F.trans z;exact br (.tuple #[.slice (some (aD G.heap.size 0)) 0 0,.bool false]) ⟨_,_,by rw[N.o.1,N.o.2];rfl,by rw[N.o.2];exact(l9 (TI:=3) (n:=0) om f (b9 []) rfl).ints,oQ f _⟩):P:=h
theorem zz85{P:Prop}(h:P:=by have f:=F.trans (z.trans I);exact br (.tuple #[.slice (some (aD m.heap.size 0)) 0 0,.bool false]) ⟨_,_,by rw[N.o.1,N.o.2];rfl,by rw[N.o.2];exact(l9 (TI:=3) (n:=0) om f (b9 []) rfl).ints,oQ f _⟩):P:=h
theorem ca6(h:c8 w v l):Calls Tryz.prog 109 #[.agg #[v]] w fun e P=>∃Q c,e=.returned (.tuple #[.slice Q (lzL l).length c,.bool (lzB l)])/\c8 P (.slice Q (lzL l).length c) (b9 (lzL l))/\Ext w P:=by
 obtain⟨B,Z,F,C,H,E,s⟩:=m04 42 h;clear h;have U:=C B E;have g:=C4 v l B (H _ E);cases Y:d7 l;exact zz40;rw[Y]at g;have R:=zh Y;have k:=l8 Y;have X:=fun W (D:Ext B W)=>o4 v l W (H _ D) R;by_cases M:ord l<=9;rotate_left
 . have b:lzB l=false:=(by unfold lzB;rw[Y];simpa using M);have N:=zh (And.intro b (dn8 b));clear b;go_in;go_wp2_with fail;rw[<-Z.o];refine cm g fun G z=>?_;have S:=C G z;go_wp2_with(refine cm (X _ z) fun m I=>?_);exact zz85
 have b:lzB l=true:=by unfold lzB;rw[Y];simpa using M
 have N:=zh (And.intro b (jv7 b));have K:=fun W (D:Ext B W) V (i:c8 W V (b9 []))=>ln5 v l R (ord l+1) [] 0 1 V W (H W D) i (qO _) zm om (by simp[Z1]) zm zm;obtain⟨T,y⟩:=nq (zfS l (ord l+1) [] 0 1);rw[<-y]at K N;clear b Y y;go_in;go_wp2_with fail;rw[<-Z.o];refine cm g fun G z=>?_;have S:=C G z;go_wp2_with(go_at_call 103;refine cm (X _ z) fun m I=>?_;have r:=z.trans I;have j:=C m r);have O:Own 3 m (m.alloc (.cells #[] 3)) (.slice (some (aD m.heap.size 0)) 0 0) (b9 []):=l9 (TI:=3) (n:=0) om (er m) (b9 []) rfl;have J:=r.trans ((er m).alloc (.cells #[] 3));refine(K _ J _ O.ints).mono ?_;rintro e w3⟨A,x,rfl,d,L⟩;go_wp2_with fail;exact br (.tuple #[.slice A T.length x,.bool true]) ⟨_,_,by rw[N.o.1,N.o.2],by rw[N.o.2];exact d,F.trans (J.trans L)⟩
end Go.Zz
