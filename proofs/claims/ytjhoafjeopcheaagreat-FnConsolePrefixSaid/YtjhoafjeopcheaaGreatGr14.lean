/- ClaimOfAlike of both. -/
import Derived.Test.YtjhoafjeopcheaaGreatGr13
import Derived.Test.YtjhoafjeopcheaaGreatGr12
import Derived.Laws.DeepStrings4
set_option linter.all false
set_option maxHeartbeats 2000000
set_option maxRecDepth 20000
namespace Go.Zz
open Go.RowKit Go.Proofs
variable(v:Value)(s:Ba)(u:Value)(l g h:LI)(a b c:Int)(n:Nat)(w:World){e W:World}{T:TypeId}
def caK(g h:LI)(a b:Int):Int:=if ffB g h a b then 5 else 0
def caA(g h:LI)(a b:Int):Int:=if ffB g h a b then a else 0
def caB(g h:LI)(a b:Int):Int:=if ffB g h a b then b else 0
def caG(g h:LI)(a b:Int):LI:=if ffB g h a b then g else []
def caO(g h:LI)(a b:Int):LI:=if ffB g h a b then h else []
def caT(g h:LI)(a b:Int):LI:=if ffB g h a b then loF g a else []
def caQ(g h:LI)(a b:Int):LI:=b9 (ffL g h a b)
theorem lf4{g h:LI}{a b:Int}(e:ffB g h a b=false):caK g h a b=0/\caA g h a b=0/\caB g h a b=0/\caG g h a b=[]/\caO g h a b=[]/\caT g h a b=[]/\caQ g h a b=[]:=by
 have l:ffL g h a b=[]:=by
  unfold ffB at e;unfold ffL;cases r:ffR g h a b with
  |none=>rfl
  |some N=>rw[r]at e;cases e
 unfold caK caA caB caG caO caT caQ;rw[e,l];exact⟨rfl,rfl,rfl,rfl,rfl,rfl,rfl⟩
theorem jq3{g h:LI}{a b:Int}(e:ffB g h a b=true):caK g h a b=5/\caA g h a b=a/\caB g h a b=b/\caG g h a b=g/\caO g h a b=h/\caT g h a b=loF g a:=by
 unfold caK caA caB caG caO caT;rw[e];exact⟨rfl,rfl,rfl,rfl,rfl,rfl⟩
theorem db2{g h:LI}{a b:Int}(e:ffB g h a b=true):j0 g a=true:=by
 unfold ffB ffR at e;by_cases c:ffC g h a b=true;unfold ffC at c;simp only[ow]at c;exact c.1.1;rw[if_neg c]at e;cases e
theorem cu2(K:c8 w v g)(J:c8 w u h):Calls Tryz.prog 31 #[.agg #[v],.agg #[u],vi a,vi b] w fun e Q=>∃k n v3 v4,e=.returned (.tuple #[CV (caK g h a b) k n (caA g h a b) (caB g h a b) 0 0 v3 v4 0,.bool (ffB g h a b)])/\Own4 w Q k n v3 v4 (caG g h a b) (caO g h a b) (caT g h a b) (caQ g h a b)/\Ext w Q:=by
 obtain⟨B,m⟩:=nq ((w.alloc (.cells #[v] 42)).alloc (.cells #[u] 42));have F:Ext w B:=by rw[m];exact((er _).alloc _).alloc _
 have B0:Blk B w.heap.size 42 #[v]:=by rw[m];exact(oq _ _ _).alloc _
 have B1:Blk B (w.heap.size+1) 42 #[u]:=by rw[m];simpa using Blk.new (w.alloc (.cells #[v] 42)) 42 #[u]
 have b0:=B0.atc 0 rfl;have b1:=B1.atc 0 rfl;have V:=zh (fun W (D:Ext B W)=>K.ext (F.trans D));have q:=zh (fun W (D:Ext B W)=>J.ext (F.trans D));have E:=er B;have Z:=zh m;clear K J m B0 B1;obtain⟨wc,C⟩:=nq (B.alloc (.cells #[vi 0,.slice none 0 0,.slice none 0 0,vi 0,vi 0,vi 0,vi 0,.slice none 0 0,.slice none 0 0,vi 0] 52));have hc:Blk wc B.heap.size 52 #[vi 0,.slice none 0 0,.slice none 0 0,vi 0,vi 0,vi 0,vi 0,.slice none 0 0,.slice none 0 0,vi 0]:=by rw[C];exact oq _ _ _
 have R:Res wc B.heap.size 10:=hc.res zm;have c:Ext B wc:=by rw[C];exact E.alloc _
 replace E:=er wc;have Ha:Hid (B.heap.size+1=wc.heap.size):=zh (by rw[C];simp[go_sem]);have Hc:=zh C;clear C hc;have C:B.heap.size<wc.heap.size:=by have:=Ha.o;omega
 have Y:Hid (w.heap.size+1+1=B.heap.size):=zh (by rw[Z.o];simp[go_sem]);have f:=fun W (D:Ext wc W)=>cd8 v u g h a b W (V.o W (c.trans D)) (q.o W (c.trans D));have c0:=sh c b0;have d:=sh c b1;cases S:ffB g h a b
 . have N:=zh (lf4 S);rw[S]at f;clear S;go_in;go_wp2_with fail;rw[<-Z.o,<-Hc.o];rw[Y.o];refine(f _ E).mono ?_;rintro e G⟨vM,rfl,-,z⟩;have r:=R.ext z;unfold Res at r;go_wp2_with fail;exact bodyPost_ret (v:=.tuple #[CV 0 (.slice none 0 0) (.slice none 0 0) 0 0 0 0 (.slice none 0 0) (.slice none 0 0) 0,.bool false]) (by simp[results,Tryz.results31,go_sem,r,CV]) rfl ⟨_,_,_,_,by rw[N.o.1,N.o.2.1,N.o.2.2.1],by rw[N.o.2.2.2.1,N.o.2.2.2.2.1,N.o.2.2.2.2.2.1,N.o.2.2.2.2.2.2];exact⟨oL _ _ _,oL _ _ _,oL _ _ _,oL _ _ _,l5.nil_left _,l5.nil_left _,l5.nil_left _,l5.nil_left _,l5.nil_left _,l5.nil_left _⟩,F.trans (by(repeat(refine oZ ?_ (oc _) _));exact c.trans z)⟩
 have N:=zh (jq3 S);have s:=db2 S;obtain⟨A,rfl,-,hg,-⟩:=l7 s;have ho:=bs2 s;rw[S]at f;clear S;go_in;go_wp2_with fail;rw[<-Z.o,<-Hc.o];rw[Y.o];refine(f _ E).mono ?_;rintro e G⟨vM,rfl,M,z⟩;obtain⟨aM,cM,rfl,-⟩:=M.shape;have k0:=c0 _ z;have k1:=d _ z;obtain⟨LM,L⟩:∃x,x=b9 (ffL g h (A:Int) b):=⟨_,rfl⟩;have HM:Hid (caQ g h (A:Int) b=LM):=zh (by rw[L];rfl);rw[<-L]at M|-;clear L;have O:=zh M;clear M;obtain⟨LL,hL⟩:∃x,x=loF g (A:Int):=⟨_,rfl⟩;have HL:Hid (loF g (A:Int)=LL):=zh hL.symm;have cL:=fun W (D:Ext wc W)=>Calls.sh (jj3 v g (A:Int) W (V.o W (c.trans D)));have cG:=fun W (D:Ext wc W)=>Z2 v g W (V.o W (c.trans D));have cO:=fun W (D:Ext wc W)=>Z2 u h W (q.o W (c.trans D));have Ho:=zh ho;have E:=z;clear ho hL s f c0 d;go_wp2_with fail;have hD:=E.drew;(first|(go_region_held3 (fun W=>Ext (B) W/\W.cell? (aD w.heap.size 0)=some v/\W.cell? (aD (w.heap.size+1) 0)=some u/\(∀i,i<10->W.cell? (aD ((B).heap.size) i)=some (At W (aD ((B).heap.size) i))/\W.frozen? (aD ((B).heap.size) i)=false)) (exact⟨(by(repeat(refine oZ ?_ (oc _) _));exact og c xq),b0 _ (by(repeat(refine oZ ?_ (oc _) _));exact og c xq),b1 _ (by(repeat(refine oZ ?_ (oc _) _));exact og c xq),(by(repeat(refine Res.setCell ?_ _ _));exact Res.ext R xq)⟩) (first|(go_at_call 85;((with_reducible refine od (cG _ xq) ?_);rintro e wd⟨aG,ca,rfl,j,H⟩;have hf:=og (a:=wc) xq H))|(go_at_call 85;((with_reducible refine od (cO _ xq) ?_);rintro e wa⟨aO,cc,rfl,I,X⟩;have he:=og (a:=wc) xq X))|(go_at_call 88;((with_reducible refine od (cL _ xq) ?_);rintro e we⟨af,cb,rfl,T,p⟩;have hb:=og (a:=wc) xq p))))|(fail "the region with a result"));have y:Ext G (World.drew G):=(er G).drew;have sa:=y.size
 all_goals
  have P:=j.mono (show Ext wc _ by repeat(first|assumption|exact er _|(apply pA;assumption)|apply pB|apply oQ))
  have l:=I.mono (show Ext wc _ by repeat(first|assumption|exact er _|(apply pA;assumption)|apply pB|apply oQ))
  have t:=T.mono (show Ext wc _ by repeat(first|assumption|exact er _|(apply pA;assumption)|apply pB|apply oQ))
  have ha:=R.ext hb
  unfold Res at ha
  have s0:=H.size
  have s1:=X.size
  have s2:=p.size
  have ab:l5 (.slice aG g.length ca) (.slice aO h.length cc):=by first|(refine G3 j I ?_;omega;done)|(refine(G3 I j ?_).symm;omega;done)
  have aT:=by first|(refine G3 j T ?_;omega;done)|(refine(G3 T j ?_).symm;omega;done)
  have aa:=by first|(refine G3 I T ?_;omega;done)|(refine(G3 T I ?_).symm;omega;done)
  have ae:=G3 O.o j om
  have ac:=G3 O.o I om
  have ad:=G3 O.o T om
  have U:=zh (And.intro (And.intro ab aT) (And.intro (And.intro aa ae) (And.intro ac ad)))
  clear ab aT aa ae ac ad s0 s1 s2
  go_wp2_with fail
  exact bodyPost_ret (v:=.tuple #[CV 5 (.slice aG g.length ca) (.slice aO h.length cc) (A:Int) b 0 0 (.slice af (loF g (A:Int)).length cb) (.slice aM LM.length cM) 0,.bool true]) (by simp[results,Tryz.results31,go_sem,ha,CV]) rfl ⟨_,_,_,_,by rw[N.o.1,N.o.2.1,N.o.2.2.1],by
   rw[N.o.2.2.2.1,N.o.2.2.2.2.1,N.o.2.2.2.2.2,HM.o]
   exact⟨(show Own 3 wc _ _ _ by
    (repeat(refine oV ?_ C _));first|exact P|exact P.ext X|exact P.ext p|exact P.ext (X.trans p)|exact P.ext (p.trans X)).mono (F.trans c),
    (show Own 3 wc _ _ _ by
    (repeat(refine oV ?_ C _));first|exact l|exact l.ext H|exact l.ext p|exact l.ext (H.trans p)|exact l.ext (p.trans H)).mono (F.trans c),
    (show Own 3 wc _ _ _ by
    (repeat(refine oV ?_ C _));skip;first|exact t|exact t.ext H|exact t.ext X|exact t.ext (H.trans X)|exact t.ext (X.trans H)).mono (F.trans c),
    (show Own 3 wc _ _ _ by
    (repeat(refine oV ?_ C _));first|exact O.o.ext (y.trans (H.trans (X.trans p)))|exact O.o.ext (y.trans (H.trans (p.trans X)))|exact O.o.ext (y.trans (X.trans (H.trans p)))|exact O.o.ext (y.trans (X.trans (p.trans H)))|exact O.o.ext (y.trans (p.trans (H.trans X)))|exact O.o.ext (y.trans (p.trans (X.trans H)))).mono (F.trans c),
    U.o.1.1,U.o.1.2,U.o.2.1.2.symm,U.o.2.1.1,U.o.2.2.1.symm,U.o.2.2.2.symm⟩,
   F.trans (by
    (repeat(refine oZ ?_ (oc _) _));first|exact c.trans hf|exact c.trans he|exact c.trans hb)⟩
theorem cq0(V:c8 w v g)(J:c8 w u h):Calls Tryz.prog 57 #[.agg #[v],.agg #[u],vi a,vi b] w fun e Q=>∃k n v3 v4,e=.returned (.tuple #[CV (caK g h a b) k n (caA g h a b) (caB g h a b) 0 0 v3 v4 0,.bool (ffB g h a b)])/\Own4 w Q k n v3 v4 (caG g h a b) (caO g h a b) (caT g h a b) (caQ g h a b)/\Ext w Q:=by
 obtain⟨B,m⟩:=nq ((w.alloc (.cells #[v] 42)).alloc (.cells #[u] 42));have F:Ext w B:=by rw[m];exact((er _).alloc _).alloc _
 have B0:Blk B w.heap.size 42 #[v]:=by rw[m];exact(oq _ _ _).alloc _
 have B1:Blk B (w.heap.size+1) 42 #[u]:=by rw[m];simpa using Blk.new (w.alloc (.cells #[v] 42)) 42 #[u]
 have b0:=B0.atc 0 rfl;have q:=B1.atc 0 rfl;have HV:=zh (fun W (D:Ext B W)=>V.ext (F.trans D));have K:=zh (fun W (D:Ext B W)=>J.ext (F.trans D));have E:=er B;have Z:=zh m;clear V J m B0 B1;obtain⟨wc,C⟩:=nq (B.alloc (.cells #[vi 0,.slice none 0 0,.slice none 0 0,vi 0,vi 0,vi 0,vi 0,.slice none 0 0,.slice none 0 0,vi 0] 52));have hc:Blk wc B.heap.size 52 #[vi 0,.slice none 0 0,.slice none 0 0,vi 0,vi 0,vi 0,vi 0,.slice none 0 0,.slice none 0 0,vi 0]:=by rw[C];exact oq _ _ _
 have R:Res wc B.heap.size 10:=hc.res zm;have c:Ext B wc:=by rw[C];exact E.alloc _
 replace E:=er wc;have Ha:Hid (B.heap.size+1=wc.heap.size):=zh (by rw[C];simp[go_sem]);have Hc:=zh C;clear C hc;have C:B.heap.size<wc.heap.size:=by have:=Ha.o;omega
 have Y:Hid (w.heap.size+1+1=B.heap.size):=zh (by rw[Z.o];simp[go_sem]);have f:=fun W (D:Ext wc W)=>cd1 v u g h a b W (HV.o W (c.trans D)) (K.o W (c.trans D));have c0:=sh c b0;have d:=sh c q;cases S:ffB g h a b
 . have N:=zh (lf4 S);rw[S]at f;clear S;go_in;go_wp2_with fail;rw[<-Z.o,<-Hc.o];rw[Y.o];refine(f _ E).mono ?_;rintro e G⟨vM,rfl,-,z⟩;have r:=R.ext z;unfold Res at r;go_wp2_with fail;exact bodyPost_ret (v:=.tuple #[CV 0 (.slice none 0 0) (.slice none 0 0) 0 0 0 0 (.slice none 0 0) (.slice none 0 0) 0,.bool false]) (by simp[results,Tryz.results57,go_sem,r,CV]) rfl ⟨_,_,_,_,by rw[N.o.1,N.o.2.1,N.o.2.2.1],by rw[N.o.2.2.2.1,N.o.2.2.2.2.1,N.o.2.2.2.2.2.1,N.o.2.2.2.2.2.2];exact⟨oL _ _ _,oL _ _ _,oL _ _ _,oL _ _ _,l5.nil_left _,l5.nil_left _,l5.nil_left _,l5.nil_left _,l5.nil_left _,l5.nil_left _⟩,F.trans (by(repeat(refine oZ ?_ (oc _) _));exact c.trans z)⟩
 have N:=zh (jq3 S);have s:=db2 S;obtain⟨A,rfl,-,hg,-⟩:=l7 s;have ho:=bs2 s;rw[S]at f;clear S;go_in;go_wp2_with fail;rw[<-Z.o,<-Hc.o];rw[Y.o];refine(f _ E).mono ?_;rintro e G⟨vM,rfl,M,z⟩;obtain⟨aM,cM,rfl,-⟩:=M.shape;have k0:=c0 _ z;have k1:=d _ z;obtain⟨LM,L⟩:∃x,x=b9 (ffL g h (A:Int) b):=⟨_,rfl⟩;have HM:Hid (caQ g h (A:Int) b=LM):=zh (by rw[L];rfl);rw[<-L]at M|-;clear L;have O:=zh M;clear M;obtain⟨LL,hL⟩:∃x,x=loF g (A:Int):=⟨_,rfl⟩;have HL:Hid (loF g (A:Int)=LL):=zh hL.symm;have cL:=fun W (D:Ext wc W)=>Calls.sh (L0 A hg W);have cG:=fun W (D:Ext wc W)=>b07 v g W (HV.o W (c.trans D));have cO:=fun W (D:Ext wc W)=>b07 u h W (K.o W (c.trans D));have Ho:=zh ho;have E:=z;clear ho hL s f c0 d;go_wp2_with fail;have hD:=E.drew;(first|(go_region_held3 (fun W=>Ext (B) W/\W.cell? (aD w.heap.size 0)=some v/\W.cell? (aD (w.heap.size+1) 0)=some u/\(∀i,i<10->W.cell? (aD ((B).heap.size) i)=some (At W (aD ((B).heap.size) i))/\W.frozen? (aD ((B).heap.size) i)=false)) (exact⟨(by(repeat(refine oZ ?_ (oc _) _));exact og c xq),b0 _ (by(repeat(refine oZ ?_ (oc _) _));exact og c xq),q _ (by(repeat(refine oZ ?_ (oc _) _));exact og c xq),(by(repeat(refine Res.setCell ?_ _ _));exact Res.ext R xq)⟩) (first|(go_at_call 123;((with_reducible refine od (cG _ xq) ?_);rintro e wd⟨aG,ca,rfl,j,H⟩;have hf:=og (a:=wc) xq H))|(go_at_call 123;((with_reducible refine od (cO _ xq) ?_);rintro e wa⟨aO,cc,rfl,I,X⟩;have he:=og (a:=wc) xq X))|(go_at_call 151;((with_reducible refine od (cL _ xq) ?_);rintro e we⟨af,cb,rfl,T,p⟩;have hb:=og (a:=wc) xq p))))|(fail "the region with a result"));have y:Ext G (World.drew G):=(er G).drew;have sa:=y.size
 all_goals
  have P:=j.mono (show Ext wc _ by repeat(first|assumption|exact er _|(apply pA;assumption)|apply pB|apply oQ))
  have l:=I.mono (show Ext wc _ by repeat(first|assumption|exact er _|(apply pA;assumption)|apply pB|apply oQ))
  have t:=T.mono (show Ext wc _ by repeat(first|assumption|exact er _|(apply pA;assumption)|apply pB|apply oQ))
  have ha:=R.ext hb
  unfold Res at ha
  have s0:=H.size
  have s1:=X.size
  have s2:=p.size
  have ab:l5 (.slice aG g.length ca) (.slice aO h.length cc):=by first|(refine G3 j I ?_;omega;done)|(refine(G3 I j ?_).symm;omega;done)
  have aT:=by first|(refine G3 j T ?_;omega;done)|(refine(G3 T j ?_).symm;omega;done)
  have aa:=by first|(refine G3 I T ?_;omega;done)|(refine(G3 T I ?_).symm;omega;done)
  have ae:=G3 O.o j om
  have ac:=G3 O.o I om
  have ad:=G3 O.o T om
  have U:=zh (And.intro (And.intro ab aT) (And.intro (And.intro aa ae) (And.intro ac ad)))
  clear ab aT aa ae ac ad s0 s1 s2
  go_wp2_with fail
  exact bodyPost_ret (v:=.tuple #[CV 5 (.slice aG g.length ca) (.slice aO h.length cc) (A:Int) b 0 0 (.slice af (b9 (j3 A)).length cb) (.slice aM LM.length cM) 0,.bool true]) (by simp[results,Tryz.results57,go_sem,ha,CV]) rfl ⟨_,_,_,_,by rw[N.o.1,N.o.2.1,N.o.2.2.1],by
   rw[N.o.2.2.2.1,N.o.2.2.2.2.1,N.o.2.2.2.2.2,HM.o]
   exact⟨(show Own 3 wc _ _ _ by
    (repeat(refine oV ?_ C _));first|exact P|exact P.ext X|exact P.ext p|exact P.ext (X.trans p)|exact P.ext (p.trans X)).mono (F.trans c),
    (show Own 3 wc _ _ _ by
    (repeat(refine oV ?_ C _));first|exact l|exact l.ext H|exact l.ext p|exact l.ext (H.trans p)|exact l.ext (p.trans H)).mono (F.trans c),
    (show Own 3 wc _ _ _ by
    (repeat(refine oV ?_ C _));rw[Ho.o];first|exact t|exact t.ext H|exact t.ext X|exact t.ext (H.trans X)|exact t.ext (X.trans H)).mono (F.trans c),
    (show Own 3 wc _ _ _ by
    (repeat(refine oV ?_ C _));first|exact O.o.ext (y.trans (H.trans (X.trans p)))|exact O.o.ext (y.trans (H.trans (p.trans X)))|exact O.o.ext (y.trans (X.trans (H.trans p)))|exact O.o.ext (y.trans (X.trans (p.trans H)))|exact O.o.ext (y.trans (p.trans (H.trans X)))|exact O.o.ext (y.trans (p.trans (X.trans H)))).mono (F.trans c),
    U.o.1.1,U.o.1.2,U.o.2.1.2.symm,U.o.2.1.1,U.o.2.2.1.symm,U.o.2.2.2.symm⟩,
   F.trans (by
    (repeat(refine oZ ?_ (oc _) _));first|exact c.trans hf|exact c.trans he|exact c.trans hb)⟩
def ba6:Ba:=⟨#[103,114,111,117,112]⟩
def Y2:Ba:=⟨#[101,120,116,114,101,109,97,108]⟩
def Y1:Ba:=⟨#[101,113,117,97,116,105,111,110]⟩
def b52:Ba:=⟨#[99,111,108,111,114,115]⟩
def U7:Ba:=⟨#[115,101,113,117,101,110,99,101]⟩
def bd4:Ba:=⟨#[122,101,114,111]⟩
def bp4:Ba:=⟨#[115,101,116]⟩
def b75:Ba:=⟨#[116,105,108,101,115]⟩
def bd3:Ba:=⟨#[116,105,108,101]⟩
def b74:Ba:=⟨#[99,111,115,101,116]⟩
def b71:Ba:=⟨#[112,97,105,114]⟩
def be8:Ba:=⟨#[115,117,109]⟩
def b09:Ba:=⟨#[97,108,105,107,101]⟩
def Y8:Ba:=⟨#[119,104,97,116]⟩
def wNo:Ba:=⟨#[110,111]⟩
def bb8(l:LI)(a b:Int):Ba:=fcF (csK l a b) (csG l a b) [] (csA l a b) (csB l a b) (csS l a b) (csP l a b) [] [] 0
def b86(l:LI)(a:Int):Ba:=fcF (if ftB l a then 4 else 0) (if ftB l a then l else []) [] (if ftB l a then a else 0) (ftV l a) 0 0 [] [] 0
def b92(l:LI)(a:Int):Ba:=fcF (if F3 l a then 7 else 0) (if F3 l a then l else []) [] (if F3 l a then a else 0) 0 (scS l a) (scD l a) [] [] 0
def bi0(k:Int):Ba:=fcF (ccK k) [] [] 0 0 0 0 (ccT k) [] (ccN k)
def b85(l X:LI):Ba:=fcF (cqK l X) (cqG l X) [] 0 0 0 0 (cqT l X) (cqP l X) 0
def bb7(g h:LI)(a b:Int):Ba:=fcF (caK g h a b) (caG g h a b) (caO g h a b) (caA g h a b) (caB g h a b) 0 0 (caT g h a b) (caQ g h a b) 0
def Nwb(w e W:World):Prop:=∀k,w.heap.size<=k->k<e.heap.size->W.heap[k]?=e.heap[k]?
theorem Ext.nwb{w:World}(h:Ext e W):Nwb w e W:=fun k _ r=>h.block k r
theorem Own.nwb{w:World}{v:Value}{l:LI}(h:Own T w e v l)(D:Nwb w e W):Own T w W v l:=by
 obtain⟨⟨L,r⟩,n⟩:=h;refine⟨⟨L,?_⟩,n⟩;rcases r with r|⟨g,cap,c,rfl,H,a,rest⟩;exact Or.inl r;exact Or.inr ⟨g,cap,c,rfl,H,by rw[D g H (Array.getElem?_eq_some_iff.1 a).1];exact a,rest⟩
def MkF(S:Ba)(F:FuncId)(w:World)(e:Ending)(P:World):Prop :=
 ∃(k a b s p n:Int) (r:Bool) (g o t q:LI) (N A R T:Option Addr) (c C c3 V:Nat),e=.returned (.tuple #[.agg #[vi k,.slice N g.length c,.slice A o.length C,vi a,vi b,vi s,vi p,.slice R t.length c3,.slice T q.length V,vi n],.bool r])/\Ext w P /\
  ∀W,Nwb w P W->Calls Tryz.prog F #[.agg #[vi k,.slice N g.length c,.slice A o.length C,vi a,vi b,vi s,vi p,.slice R t.length c3,.slice T q.length V,vi n]] W (RE W (.string S))
theorem Blk.ten{w:World}{b:Nat}{i X x o q s u y z A:Value}(h:Blk w b T #[i,X,x,o,q,s,u,y,z,A]):w.cell? (aD b 0)=some i/\w.cell? (aD b 1)=some X/\w.cell? (aD b 2)=some x/\w.cell? (aD b 3)=some o/\w.cell? (aD b 4)=some q/\w.cell? (aD b 5)=some s/\w.cell? (aD b 6)=some u/\w.cell? (aD b 7)=some y/\w.cell? (aD b 8)=some z/\w.cell? (aD b 9)=some A :=
 ⟨h.cell rfl,h.cell rfl,h.cell rfl,h.cell rfl,h.cell rfl,h.cell rfl,h.cell rfl,h.cell rfl,h.cell rfl,h.cell rfl⟩
theorem bs3{S:Ba}{F:FuncId}{w w3:World}{k a b s p n:Int}{g o t q:LI}{N A R T:Option Addr}{c C c3 V:Nat}(hF:∀W,Nwb w w3 W->Calls Tryz.prog F #[.agg #[vi k,.slice N g.length c,.slice A o.length C,vi a,vi b,vi s,vi p,.slice R t.length c3,.slice T q.length V,vi n]] W (RE W (.string S))):Ext w3 (w3.alloc (.cells #[vi k,.slice N g.length c,.slice A o.length C,vi a,vi b,vi s,vi p,.slice R t.length c3,.slice T q.length V,vi n] 52))/\(Calls Tryz.prog F #[.agg #[vi k,.slice N g.length c,.slice A o.length C,vi a,vi b,vi s,vi p,.slice R t.length c3,.slice T q.length V,vi n]] (w3.alloc (.cells #[vi k,.slice N g.length c,.slice A o.length C,vi a,vi b,vi s,vi p,.slice R t.length c3,.slice T q.length V,vi n] 52)) (RE (w3.alloc (.cells #[vi k,.slice N g.length c,.slice A o.length C,vi a,vi b,vi s,vi p,.slice R t.length c3,.slice T q.length V,vi n] 52)) (.string S)))/\(w3.alloc (.cells #[vi k,.slice N g.length c,.slice A o.length C,vi a,vi b,vi s,vi p,.slice R t.length c3,.slice T q.length V,vi n] 52)).cell? (aD w3.heap.size 0)=some (vi k)/\(w3.alloc (.cells #[vi k,.slice N g.length c,.slice A o.length C,vi a,vi b,vi s,vi p,.slice R t.length c3,.slice T q.length V,vi n] 52)).cell? (aD w3.heap.size 1)=some (.slice N g.length c)/\(w3.alloc (.cells #[vi k,.slice N g.length c,.slice A o.length C,vi a,vi b,vi s,vi p,.slice R t.length c3,.slice T q.length V,vi n] 52)).cell? (aD w3.heap.size 2)=some (.slice A o.length C)/\(w3.alloc (.cells #[vi k,.slice N g.length c,.slice A o.length C,vi a,vi b,vi s,vi p,.slice R t.length c3,.slice T q.length V,vi n] 52)).cell? (aD w3.heap.size 3)=some (vi a)/\(w3.alloc (.cells #[vi k,.slice N g.length c,.slice A o.length C,vi a,vi b,vi s,vi p,.slice R t.length c3,.slice T q.length V,vi n] 52)).cell? (aD w3.heap.size 4)=some (vi b)/\(w3.alloc (.cells #[vi k,.slice N g.length c,.slice A o.length C,vi a,vi b,vi s,vi p,.slice R t.length c3,.slice T q.length V,vi n] 52)).cell? (aD w3.heap.size 5)=some (vi s)/\(w3.alloc (.cells #[vi k,.slice N g.length c,.slice A o.length C,vi a,vi b,vi s,vi p,.slice R t.length c3,.slice T q.length V,vi n] 52)).cell? (aD w3.heap.size 6)=some (vi p)/\(w3.alloc (.cells #[vi k,.slice N g.length c,.slice A o.length C,vi a,vi b,vi s,vi p,.slice R t.length c3,.slice T q.length V,vi n] 52)).cell? (aD w3.heap.size 7)=some (.slice R t.length c3)/\(w3.alloc (.cells #[vi k,.slice N g.length c,.slice A o.length C,vi a,vi b,vi s,vi p,.slice R t.length c3,.slice T q.length V,vi n] 52)).cell? (aD w3.heap.size 8)=some (.slice T q.length V)/\(w3.alloc (.cells #[vi k,.slice N g.length c,.slice A o.length C,vi a,vi b,vi s,vi p,.slice R t.length c3,.slice T q.length V,vi n] 52)).cell? (aD w3.heap.size 9)=some (vi n) :=
 have E:=(er w3).alloc (.cells #[vi k,.slice N g.length c,.slice A o.length C,vi a,vi b,vi s,vi p,.slice R t.length c3,.slice T q.length V,vi n] 52)
 ⟨E,hF _ E.nwb,(oq w3 52 #[vi k,.slice N g.length c,.slice A o.length C,vi a,vi b,vi s,vi p,.slice R t.length c3,.slice T q.length V,vi n]).ten⟩
theorem w4(W:Ba)(b0 b1 b2 b3:Bool)(h:(W.data.toList == [103,114,111,117,112])=b0/\(W.data.toList == [101,120,116,114,101,109,97,108])=b1/\(W.data.toList == [101,113,117,97,116,105,111,110])=b2/\(W.data.toList == [99,111,108,111,114,115])=b3:=by decide):(W.toList == [103,114,111,117,112])=b0/\(W.toList == [101,120,116,114,101,109,97,108])=b1/\(W.toList == [101,113,117,97,116,105,111,110])=b2/\(W.toList == [99,111,108,111,114,115])=b3:=by rw[pi];exact h
theorem w6(W:Ba)(b0 b1 b2 b3 b4 b5:Bool)(h:(W.data.toList == [115,101,113,117,101,110,99,101])=b0/\(W.data.toList == [122,101,114,111])=b1/\(W.data.toList == [115,101,116])=b2/\(W.data.toList == [116,105,108,101,115])=b3/\(W.data.toList == [116,105,108,101])=b4/\(W.data.toList == [99,111,115,101,116])=b5:=by decide):(W.toList == [115,101,113,117,101,110,99,101])=b0/\(W.toList == [122,101,114,111])=b1/\(W.toList == [115,101,116])=b2/\(W.toList == [116,105,108,101,115])=b3/\(W.toList == [116,105,108,101])=b4/\(W.toList == [99,111,115,101,116])=b5:=by rw[pi];exact h
theorem w3(W:Ba)(b0 b1 b2:Bool)(h:(W.data.toList == [112,97,105,114])=b0/\(W.data.toList == [115,117,109])=b1/\(W.data.toList == [97,108,105,107,101])=b2:=by decide):(W.toList == [112,97,105,114])=b0/\(W.toList == [115,117,109])=b1/\(W.toList == [97,108,105,107,101])=b2:=by rw[pi];exact h
theorem gbx{w G:World}{v:Value}{l:LI}(T:TypeId)(h:c8 G v l)(E:Ext w G):∃Q c,v=.slice Q l.length c/\Hid (c8 (G.alloc (.cells #[.slice Q l.length c] T)) (.slice Q l.length c) l)/\Ext w (G.alloc (.cells #[.slice Q l.length c] T))/\(G.alloc (.cells #[.slice Q l.length c] T)).cell? (aD G.heap.size 0)=some (.slice Q l.length c):=by
 obtain⟨Q,c,a,rfl,-,-,-⟩:=h.op;exact⟨Q,c,rfl,zh (h.ext ((er G).alloc _)),E.alloc _,(oq G T _).cell rfl⟩
theorem zz48{P:Prop}(h:P:=by exact⟨_,_,_,_,_,_,_,_,_,_,_,N,A,R,T,c,C,c3,V,rfl,E,fun W D=>Y4 _ _ _ _ _ _ _ _ _ _ _ _ _ _ W ⟨(O.h1.nwb D).ints,(O.h2.nwb D).ints,(O.h3.nwb D).ints,(O.h4.nwb D).ints⟩⟩):P:=h
theorem lu5(h:c8 w v l):Calls Tryz.prog 30 #[.agg #[v],vi a,vi b] w (MkF (bb8 l a b) 32 w) :=
 (d88 v l a b w h).mono fun _ _ h=>by
  obtain⟨i,k,m,o,rfl,O,E⟩:=h
  obtain⟨N,c,rfl,-⟩:=O.h1.shape
  obtain⟨A,C,rfl,-⟩:=O.h2.shape
  obtain⟨R,c3,rfl,-⟩:=O.h3.shape
  obtain⟨T,V,rfl,-⟩:=O.h4.shape
  exact zz48
theorem ll7(h:c8 w v l):Calls Tryz.prog 69 #[.agg #[v],vi a] w (MkF (b86 l a) 32 w) :=
 (d10 v l a w h).mono fun _ _ h=>by
  obtain⟨i,k,m,o,rfl,O,E⟩:=h
  obtain⟨N,c,rfl,-⟩:=O.h1.shape
  obtain⟨A,C,rfl,-⟩:=O.h2.shape
  obtain⟨R,c3,rfl,-⟩:=O.h3.shape
  obtain⟨T,V,rfl,-⟩:=O.h4.shape
  exact zz48
theorem l92(h:c8 w v l):Calls Tryz.prog 70 #[.agg #[v],vi a] w (MkF (b92 l a) 32 w) :=
 (cu3 v l a w h).mono fun _ _ h=>by
  obtain⟨i,k,m,o,rfl,O,E⟩:=h
  obtain⟨N,c,rfl,-⟩:=O.h1.shape
  obtain⟨A,C,rfl,-⟩:=O.h2.shape
  obtain⟨R,c3,rfl,-⟩:=O.h3.shape
  obtain⟨T,V,rfl,-⟩:=O.h4.shape
  exact zz48
theorem zz94{P:Prop}(h:P:=by exact⟨_,_,_,_,_,_,_,_,_,_,_,N,a,R,A,c,C,c3,V,rfl,E,fun W D=>Y4 _ _ _ _ _ _ _ _ _ _ _ _ _ _ W ⟨(O.h1.nwb D).ints,(O.h2.nwb D).ints,(O.h3.nwb D).ints,(O.h4.nwb D).ints⟩⟩):P:=h
theorem jv9(k:Int)(w:World):Calls Tryz.prog 63 #[vi k] w (MkF (bi0 k) 32 w) :=
 (cp5 k w).mono fun _ _ h=>by
  obtain⟨v,l,m,o,rfl,O,E⟩:=h
  obtain⟨N,c,rfl,-⟩:=O.h1.shape
  obtain⟨a,C,rfl,-⟩:=O.h2.shape
  obtain⟨R,c3,rfl,-⟩:=O.h3.shape
  obtain⟨A,V,rfl,-⟩:=O.h4.shape
  exact zz94
theorem ll8(X:LI)(w:World)(h:c8 w v l)(H:c8 w u X):Calls Tryz.prog 66 #[.agg #[v],u] w (MkF (b85 l X) 32 w) :=
 (cc4 v u l X w h H).mono fun _ _ h=>by
  obtain⟨i,k,m,o,rfl,O,E⟩:=h
  obtain⟨N,c,rfl,-⟩:=O.h1.shape
  obtain⟨a,C,rfl,-⟩:=O.h2.shape
  obtain⟨R,c3,rfl,-⟩:=O.h3.shape
  obtain⟨A,V,rfl,-⟩:=O.h4.shape
  exact zz94
theorem l91(V:c8 w v g)(H:c8 w u h):Calls Tryz.prog 31 #[.agg #[v],.agg #[u],vi a,vi b] w (MkF (bb7 g h a b) 32 w) :=
 (cu2 v u g h a b w V H).mono fun _ _ h=>by
  obtain⟨i,k,m,o,rfl,O,E⟩:=h
  obtain⟨N,c,rfl,-⟩:=O.h1.shape
  obtain⟨A,C,rfl,-⟩:=O.h2.shape
  obtain⟨R,c3,rfl,-⟩:=O.h3.shape
  obtain⟨T,X,rfl,-⟩:=O.h4.shape
  exact⟨_,_,_,_,_,_,_,_,_,_,_,N,A,R,T,c,C,c3,X,rfl,E,fun W D=>Y4 _ _ _ _ _ _ _ _ _ _ _ _ _ _ W ⟨(O.h1.nwb D).ints,(O.h2.nwb D).ints,(O.h3.nwb D).ints,(O.h4.nwb D).ints⟩⟩
theorem cx2(f:Nat->Ba)(S:s.size<=1):∀k,(∀i,i<k->(f i).size<=5000)->(jn s f k).size<=5001*k:=by
 intro k;induction k with
 |zero=>intro _;exact oc _
 |succ k ih =>
  intro h;have o:=ih (fun i J=>h i om);exact zz159
def spB:Ba:=⟨#[32]⟩
def F4(l:List Ba):Ba:=jn spB (m8 l) l.length
theorem dh3(l:List Ba)(s:Ba)(w:World)(h:b04 w v l)(S:s.size<=1)(L:∀i,i<l.length->(m8 l i).size<=5000)(n:l.length<=100):Calls Tryz.prog 194 #[v,.string s] w fun e P=>e=.returned (.string (jn s (m8 l) l.length))/\w=P:=by
 obtain⟨Q,c,rfl,E,C⟩:=h;have x:∀(i:Nat) W,i<l.length->∃g,Q=some (aD g 0)/\(Instr.indexAt 29 (.slice Q l.length c) (vi (i:Int))).run Tryz.prog W=.ok (.pointer (some (aD g i))) W:=by
  intro i W J;obtain⟨g,rfl,-⟩:=C i J;refine⟨g,rfl,?_⟩;exact zz32
 have D:=zh L;clear L;go_in;go_wp2_with fail;go_loop [5,10] (fun t i=>∃(k:Nat) (u:Ba),k<=l.length/\i=vi k/\t=.string u/\Hid (u=jn s (m8 l) k)) (fun _ i=>l.length-(intOf i).toNat);exact⟨0,_,om,rfl,rfl,zh rfl⟩
 obtain⟨k,u,V,rfl,rfl,X⟩:=hrel;have j:u.size<=5001*k:=by rw[X.o];exact cx2 _ _ S k fun i J=>D.o i om
 by_cases U:k<l.length
 . obtain⟨g,H,I⟩:=x k w U;obtain⟨A,G,Z⟩:=C k U;have b:A=g:=(by rw[H]at G;simp only[Option.some.injEq,Addr.mk.injEq,and_true]at G;exact G.symm);subst b;clear x C;subst H;have p:=D.o k U;obtain⟨y,Y⟩:=nq (m8 l k);rw[<-Y]at Z p;have d:=zh Y;clear Y;by_cases a:0<k
   . have K:(0:Int)<k:=om;go_wp2_with fail;go_round;exact⟨k+1,_,om,zg,rfl,zh (by rw[b42 _ _ a,<-X.o,d.o])⟩;exact zm1
   exact zz143
 have z:k=l.length:=om;subst z;clear x C;go_wp2_with fail;go_ret;exact⟨j5 X.o,rfl⟩
theorem cx6(l:List Ba)(w:World)(h:b04 w v l)(H:∀i,i<l.length->(m8 l i).size<=5000)(n:l.length<=100):Calls Tryz.prog 76 #[v] w fun e W=>e=.returned (.string (F4 l))/\w=W:=by
 have c:=dh3 v l spB w h (by decide) H n;go_in;go_wp2_with(refine c.mono ?_;rintro e W⟨rfl,rfl⟩);exact zz108
theorem d05(l:List Ba)(T:TypeId)(h:l.length<=1000000):b04 (w.alloc (.cells (l.map Value.string).toArray T)) (.slice (some (aD w.heap.size 0)) l.length l.length) l:=by
 refine⟨_,l.length,rfl,h,fun i J=>⟨_,rfl,?_⟩⟩;have:=(oq w T (l.map Value.string).toArray).cell (i:=i) (v:=.string (m8 l i)) (by simp[m8,List.getD,J]);exact this
theorem b04.ext{w:World}{v:Value}{l:List Ba}(h:b04 w v l)(E:Ext w e):b04 e v l:=by
 obtain⟨Q,c,rfl,n,H⟩:=h;exact⟨Q,c,rfl,n,fun i J=>by obtain⟨g,rfl,C⟩:=H i J;exact⟨g,rfl,E.cell C⟩⟩
theorem br7(S:s.size<=100000):
 Calls Tryz.prog 13 #[.string s,.int .u8 c] w fun e W=>∃v,e=.returned v/\N2 w W v (p7 c s)/\Ext w W:=by
 have Q:=bg3 (er w);have F:=(er w).alloc (.cells #[] 9);go_in;go_wp2_with fail;go_loopw [5,6,7] (fun J A i wr=>∃(k f:Nat) (L:List Ba),f<=k/\k<=s.size/\L.length<=k/\i=vi k/\A=vi f/\N2 w wr J L/\Ext w wr/\Hid (L++Z3 c s k (s.extract f k)=p7 c s)) (fun _ _ i _=>s.size-(intOf i).toNat);exact⟨0,0,[],om,om,zm,rfl,rfl,Q,F,zh (by rw[du7];rfl)⟩
 obtain⟨k,f,L,X,V,Y,rfl,rfl,O,E,u⟩:=hrel;have n:L.length<1000000:=om;by_cases U:k<s.size
 . obtain⟨b,C⟩:=nq (bt s k);have K:(s[k]'U).toNat=b:=(by rw[b19,C]);have B:=zh C;clear C;by_cases h:(b:Int)=c
   . have y:((b:Int) == c)=true:=(by rw[beq_iff_eq];exact h);have l:Hid (L++[s.extract f k]++Z3 c s (k+1) (s.extract (k+1) (k+1))=p7 c s):=zh (by
      rw[<-u.o,bu3 c s k _ U (by rw[<-B.o];exact h),du7];simp)
     clear h;go_wp2_with(at_builtin;refine S4 rfl _ _ rfl w _ _ _ _ O E n rfl rfl ?_;intro j G H z);go_roundw;exact⟨k+1,k+1,_,om,om,by simp;omega,zg,zg,H,z,l⟩;exact zm1
   have y:((b:Int) == c)=false:=(by rw[beq_eq_false_iff_ne];exact h);have l:Hid (L++Z3 c s (k+1) (s.extract f (k+1))=p7 c s):=zh (by
    rw[<-u.o,bn2 c s k _ U (by rw[<-B.o];exact h),l55 s f k X])
   clear h;go_wp2_with fail;go_roundw;exact⟨k+1,f,L,om,om,om,zg,rfl,O,E,l⟩;exact zm1
 have t:k=s.size:=om;subst t;have p:Hid (L++[s.extract f s.size]=p7 c s):=zh (by rw[<-u.o,bu2 c s _ _ (oc _)]);go_wp2_with(at_builtin;refine S4 rfl _ _ rfl w _ _ _ _ O E n rfl rfl ?_;intro j G H z);go_ret;exact⟨_,rfl,by rw[p.o]at H;exact H,z⟩
theorem bl3(S:s.size<=100000):
 Calls Tryz.prog 11 #[.string s,.int .u8 c] w fun e W=>∃v,e=.returned v/\N2 w W v (p7 c s)/\Ext w W:=by
 have Q:=bg3 (er w);have F:=(er w).alloc (.cells #[] 9);go_in;go_wp2_with fail;go_loopw [5,6,7] (fun J pv i wr=>∃(k:Nat) (p:Ba) (L:List Ba),p.size<=k/\k<=s.size/\L.length<=k/\i=vi k/\pv=.string p/\N2 w wr J L/\Ext w wr/\Hid (L++Z3 c s k p=p7 c s)) (fun _ _ i _=>s.size-(intOf i).toNat);exact⟨0,_,[],by decide,om,zm,rfl,rfl,Q,F,zh rfl⟩
 obtain⟨k,p,L,P,V,Y,rfl,rfl,O,E,u⟩:=hrel;have n:L.length<1000000:=om;by_cases U:k<s.size
 . obtain⟨b,C⟩:=nq (bt s k);have K:(s[k]'U).toNat=b:=(by rw[b19,C]);have B:=zh C;clear C;by_cases h:(b:Int)=c
   . have y:((b:Int) == c)=true:=(by rw[beq_iff_eq];exact h);have l:Hid (L++[p]++Z3 c s (k+1) ⟨#[]⟩=p7 c s):=zh (by
      rw[<-u.o,bu3 c s k _ U (by rw[<-B.o];exact h)];simp)
     clear h;go_wp2_with(at_builtin;refine S4 rfl _ _ rfl w _ _ _ _ O E n rfl rfl ?_;intro j G H z);go_roundw;exact⟨k+1,_,_,oX _,om,by simp;omega,zg,rfl,H,z,l⟩;exact zm1
   have y:((b:Int) == c)=false:=(by rw[beq_eq_false_iff_ne];exact h);have l:Hid (L++Z3 c s (k+1) (p++s.extract k (k+1))=p7 c s):=zh (by
    rw[<-u.o,bn2 c s k _ U (by rw[<-B.o];exact h)])
   have X:(s.extract k (k+1)).size=1:=(by rw[pP];omega);have r:(p++s.extract k (k+1)).size<=k+1:=(by rw[oe,X];omega);clear h;go_wp2_with fail;go_roundw;exact⟨k+1,_,L,r,om,om,zg,rfl,O,E,l⟩;exact zm1
 have t:k=s.size:=om;subst t;have q:Hid (L++[p]=p7 c s):=zh (by rw[<-u.o,bu2 c s _ _ (oc _)]);go_wp2_with(at_builtin;refine S4 rfl _ _ rfl w _ _ _ _ O E n rfl rfl ?_;intro j G H z);go_ret;exact⟨_,rfl,by rw[q.o]at H;exact H,z⟩
theorem dv7{n:Nat}(h:0<n):j8 (-(n:Int))=⟨#[45]⟩++W8 n ⟨#[]⟩:=by
 unfold j8;rw[if_neg om,if_pos om,Int.natAbs_neg,Int.natAbs_natCast]
theorem dd2(N:n<1000000000000)(p:0<n)(w:World):
 Calls Tryz.prog 97 #[vi (-(n:Int))] w (RE w (.string (j8 (-(n:Int))))):=by
 have V:¬n=0:=om;have B:(-(n:Int) == 0)=false:=by rw[beq_eq_false_iff_ne];omega
 have U:0<n:=p;have b:(0:Int)<n:=om;have f:=zh (dv7 p);go_in;go_wp2_with fail;go_loopw [0,3] (fun d s wr=>∃m:Nat,m<1000000000000/\d=vi (-(m:Int))/\Ext w wr/\∃t:Ba,s=.string t/\t.size+m<=n/\Hid (W8 m t=W8 n ⟨#[]⟩)) (fun d _ _=>(intOf d).natAbs);exact⟨n,N,rfl,er _,_,rfl,by simp[ByteArray.size],zh rfl⟩
 obtain⟨m,M,rfl,E,t,rfl,Z,T⟩:=hrel;by_cases z:m=0
 . subst z;go_wp2_with fail;go_ret;exact⟨j5 (by rw[f.o,<-T.o,bx5]),E⟩
 have r:¬(m:Int)=0:=om;obtain⟨R,u⟩:∃R:Nat,(m:Int)%10=R:=⟨m%10,om⟩;have W:R<10:=om;obtain⟨q,Q⟩:∃q:Nat,(m:Int)/10=q:=⟨m/10,om⟩;have O:=zh (show R=m%10 by omega);have H:=zh (show q=m/10 by omega);by_cases i:0<R
 . have l:(0:Int)<R:=om;have c:=bw9 wr (48+R);have S:(strOfNums [48+(R:Int)]).size=1:=strOfNums_size _;go_wp2_with fail;go_roundw;case rel =>
    have h:=H.o;have I:=O.o;exact⟨q,om,zg,E.alloc _,_,rfl,by(rw[oe,S];omega),zh (by rw[<-T.o,bu6 t z,<-h,<-I])⟩
   have h:=H.o;(simp[intOf];omega)
 have l:R=0:=om;subst l;have c:=bw9 wr 48;have S:(strOfNums [(48:Int)]).size=1:=strOfNums_size _;go_wp2_with fail;go_roundw;case rel =>
  have h:=H.o;have I:=O.o;exact⟨q,om,zg,E.alloc _,_,rfl,by(rw[oe,S];omega),zh (by rw[<-T.o,bu6 t z,<-h,<-I];rfl)⟩
 have h:=H.o;(simp[intOf];omega)
theorem zz144{P:Prop}(h:P:=by have Q:=M.o;have N:=a.o;have hj:=S.o;exact⟨q,_,om,zg,z,H,by(simp;omega),by rw[<-C.o,bn9 K,<-Q,<-N];simp⟩):P:=h
theorem dl4(hn:n<1000000000000)(P:0<n)(w:World):
 Calls Tryz.prog 77 #[vi (-(n:Int))] w (RE w (.string (j8 (-(n:Int))))):=by
 have h0:¬n=0:=om;have hR:(-(n:Int) == 0)=false:=by rw[beq_eq_false_iff_ne];omega
 have h1:0<n:=P;have hI:(0:Int)<n:=om;have he:=ci8 (er w);have F:=(er w).alloc (.cells #[] 5);go_in;go_wp2_with fail;go_loopw [3,4] (fun v d wr=>∃(m:Nat) (l:LI),m<1000000000000/\d=vi (-(m:Int))/\Ext w wr/\T7 w wr v l/\l.length+m<=n/\l++rd m=rd n) (fun _ d _=>(intOf d).natAbs);exact⟨n,[],hn,rfl,F,he,zm,zm⟩
 obtain⟨m,l,hm,rfl,E,O,B,p⟩:=hrel;by_cases K:m=0
 . subst K;rw[bs7,pV]at p;have C:=zh p;have b:l.length<17592186044416:=om;clear p;go_wp2_with(at_builtin;go_loud (refine b79 rfl _ _ rfl w _ _ _ _ O E b rfl rfl ?_;intro A G H z;obtain⟨X,x⟩:∃X:LI,X=l++[45]:=⟨_,rfl⟩;rw[<-x]at H;have hb:0<X.length:=(by rw[x];simp);obtain⟨g,c,D,hs,ha,hx,-⟩:=H.shape hb;obtain⟨L,Z⟩:=nq (X.length);have hy:L<=n+1:=(by rw[Z,x];simp;omega);rw[<-Z]at hb hs D;subst D;have s:=zh Z;have HX:=zh x;have HO:=zh H;clear Z x H O));have hM:∀(i:Nat) W,i<L->(Instr.indexAt 24 (.slice (some (aD g 0)) L c) (vi (i:Int))).run Tryz.prog W=.ok (.pointer (some (aD g i))) W:=by
    exact zz112
   go_wp2_with fail;go_loopw [6,7] (fun i j wr=>∃(k jn:Nat),k<=jn+1/\jn+k+1=L/\i=vi k/\j=vi jn/\Ext w wr/\T7 w wr (.slice (some (aD g 0)) L c) (V1 X k)) (fun _ j _=>(intOf j).toNat);exact⟨0,L-1,om,om,rfl,zg,z,by rw[cj6];exact HO.o⟩;case round =>
    obtain⟨k,jn,V,u,rfl,rfl,I,Y⟩:=hrel;have Hj:=zh u;by_cases U:k<jn
    . have ht:k<L:=om;have ho:jn<L:=om;clear u;have e:(V1 X k).length=L:=(by rw[V8,<-s.o]);obtain⟨hu,hN⟩:=Y.cellAt e k ht;obtain⟨hA,hP⟩:=Y.cellAt e jn ho;have y:=zh e;have Ha:=zh Y;clear e Y;have hw:¬k=jn:=om;have hD:¬jn=k:=om;go_wp2_with fail;go_big_region;go_wp2_with fail;go_roundw;case rel =>
       have hK:=Hj.o;have hG:(V1 X k).length-1-k=jn:=(by rw[y.o];omega);obtain⟨hf,hg⟩:=Ha.o.stored_grown y.o k (nth (V1 X k) jn);obtain⟨f,hh⟩:=hf.stored_grown (by rw[ql];exact y.o) jn (nth (V1 X k) k);have T:=cj5 X k (by rw[<-s.o];omega);rw[<-s.o,show L-1-k=jn by omega]at T;rw[T]at f;exact⟨k+1,jn-1,om,om,zg,zg,((I.grown hg (fun q t=>by cases t;exact ha)).grown hh (fun q t=>by cases t;exact ha)).drew,f⟩
      case measure=>exact zm1
    . clear u;have hB:=Y.str (by rw[V8,<-s.o]);have He:Hid (strOfNums (V1 X k)=j8 (-(n:Int))):=zh (by
       have hC:=Hj.o;have hH:=s.o;rw[cz1 X k om,HX.o,C.o,dv7 P,bu5];apply pH;simp[strOfNums])
      go_wp2_with fail;go_ret;exact⟨j5 He.o,I⟩
 have r:¬(m:Int)=0:=om;obtain⟨R,hr⟩:∃R:Nat,(m:Int)%10=R:=⟨m%10,om⟩;have hJ:R<10:=om;obtain⟨q,t⟩:∃q:Nat,(m:Int)/10=q:=⟨m/10,om⟩;have a:=zh (show R=m%10 by omega);have M:=zh (show q=m/10 by omega);have C:=zh p;have S:=zh B;have b:l.length<17592186044416:=om;clear p B;by_cases hQ:0<R
 . have hc:(0:Int)<R:=om;go_wp2_with(at_builtin;refine b79 rfl _ _ rfl w _ _ _ _ O E b rfl rfl ?_;intro A G H z);go_roundw;case rel =>
    exact zz144
   have Q:=M.o;(simp[intOf];omega)
 have hc:R=0:=om;subst hc;go_wp2_with(at_builtin;refine b79 rfl _ _ rfl w _ _ _ _ O E b rfl rfl ?_;intro A G H z);go_roundw;case rel =>
  exact zz144
 have Q:=M.o;(simp[intOf];omega)
theorem c54(n:Int)(H: -1000000000000<n/\n<1000000000000)(w:World):Calls Tryz.prog 97 #[vi n] w (RE w (.string (j8 n))):=by
 by_cases h:n<0;obtain⟨m,rfl⟩:∃m:Nat,n = -(m:Int):=⟨n.natAbs,om⟩;exact dd2 m om om w;exact o8 n om w
theorem cb4(n:Int)(H: -1000000000000<n/\n<1000000000000)(w:World):Calls Tryz.prog 77 #[vi n] w (RE w (.string (j8 n))):=by
 by_cases h:n<0;obtain⟨m,rfl⟩:∃m:Nat,n = -(m:Int):=⟨n.natAbs,om⟩;exact dl4 m om om w;exact C0 n om w
theorem lq6{s:Ba}(h:bt s 0=45):Z8 s=1:=if_pos h
theorem lq7{s:Ba}(h:¬bt s 0=45):Z8 s=0:=if_neg h
theorem jw0(h:s.size=0):s=⟨#[]⟩:=by
 apply pH;exact Array.eq_empty_of_size_eq_zero h
theorem zz80{P:Prop}(h:P:=by go_wp2_with fail;go_meet;exact⟨by rw[d.o],rfl⟩):P:=h
theorem zz91{P:Prop}(h:P:=by rw[decide_eq_false j]at q;have H:=zh (p.o.trans (if_neg j));clear j;go_wp2_with(go_at_call 77;refine cm (F _) fun P E=>?_);exact br (.tuple #[vi 0,.bool false]) ⟨by rw[H.o],E⟩):P:=h
theorem zz135{P:Prop}(h:P:=by have H:=zh (g.o k f U (by rw[<-B.o];omega));go_wp2_with fail;exact br (.tuple #[vi 0,.bool false]) ⟨by rw[H.o],er _⟩):P:=h
theorem bh0(S:s.size<=100000):
 Calls Tryz.prog 62 #[.string s] w (RE w (.tuple #[vi (pI s).1,.bool (pI s).2])):=by
 have T:=zh (fun h=>lq6 (s:=s) h);have O:=zh (fun h=>lq7 (s:=s) h);go_in;go_upto_region 2 with fail;go_cut [14] (fun sa Z=>sa=.bool (decide (bt s 0=45))/\w=Z);case first =>
  by_cases Y:0<s.size
  . obtain⟨b,C⟩:=nq (bt s 0);have K:(s[0]'Y).toNat=b:=(by rw[b19,C]);have hA:(0:Int)<s.size:=om;by_cases c:b=45
    . have hd:decide (bt s 0=45)=true:=decide_eq_true (by rw[<-C];exact c);have d:=zh hd;clear C hd;subst c;exact zz80
    . have d:=zh (show decide (bt s 0=45)=false from decide_eq_false (by rw[<-C];exact c));have hp:((b:Int) == 45)=false:=(by rw[beq_eq_false_iff_ne];omega);clear c C;exact zz80
  . have d:=zh (show decide (bt s 0=45)=false from decide_eq_false (by rw[jd0 s 0 om];decide));exact zz80
 case rest =>
 obtain⟨rfl,rfl⟩:=hcut;go_upto_if 14 with fail;go_cut [4] (fun s4 Z=>s4=vi (Z8 s)/\w=Z);case first =>
  by_cases C:bt s 0=45
  . have hd:=decide_eq_true C;have A:=zh (T.o C);go_wp2_with fail;go_meet;exact⟨by rw[A.o];rfl,rfl⟩
  . have hd:=decide_eq_false C;have A:=zh (O.o C);go_wp2_with fail;go_meet;exact⟨by rw[A.o];rfl,rfl⟩
 case rest =>
 obtain⟨rfl,rfl⟩:=hcut;have hm:=dp9 s;have Hh:=zh (fun (h:bt s 0=45)=>T.o h);have Hf:=zh (fun h=>jx5 (s:=s) h);have g:=zh (fun i Y J h=>lv5 (s:=s) (i:=i) Y J h);have L:=zh (lz9 s);have r:=zh (fun h V=>lv8 (s:=s) h V);have Hg:=zh (fun h=>ln8 (s:=s) h);have Hc:=zh (j41 s);obtain⟨a,M⟩:=nq (Z8 s);rw[<-M]at hm T O Hf g L r Hg|-;have A:=zh M;clear M;by_cases I:1<=(s.size:Int)-a/\(s.size:Int)-a<=9
 . have z:inB ((s.size:Int)-a) 1 9=true:=V2.2 I;have hr:IntKind.i64.wrap ((s.size:Int)-a)=(s.size:Int)-a:=oD _ om;have c:=fun W=>H8 ((s.size:Int)-a) 1 9 W;simp only[z]at c;obtain⟨ho,ht⟩:=I;go_wp2_with(go_at_call 168;refine(c _).mono ?_;rintro e P⟨rfl,rfl⟩);go_loop [5,6] (fun nv D=>∃k:Nat,a<=k/\k<=s.size/\D=vi k/\nv=vi ((pv s k).1:Nat)/\Hid ((pv s k).2=k-a)) (fun _ D=>s.size-(intOf D).toNat);exact⟨a,oc _,om,rfl,by rw[L.o];rfl,zh (by rw[L.o];simp)⟩;case round =>
    obtain⟨k,f,V,rfl,rfl,l⟩:=hrel;have hh:=jn0 s k om;obtain⟨n,m⟩:=nq ((pv s k).1);rw[<-m]at hh|-;have R:=zh m;clear m;by_cases U:k<s.size
    . obtain⟨b,C⟩:=nq (bt s k);have K:(s[k]'U).toNat=b:=(by rw[b19,C]);have hf:=lf3 s k;rw[<-C]at hf;have B:=zh C;clear C;by_cases hy:b<48
      . have he:(b:Int)<48:=om;exact zz135
      . by_cases hB:57<b
        . have he:¬(b:Int)<48:=om;have hj:(57:Int)<b:=om;exact zz135
        . have he:¬(b:Int)<48:=om;have hj:¬(57:Int)<b:=om;have Hy:Hid (pv s (k+1)=(10*n+(b-48),k+1-a)):=zh (by rw[j21 s k (by rw[<-B.o];omega),<-R.o,<-B.o,l.o];congr 1;omega);have G:IntKind.u8.wrap ((b:Int)-48)=(b:Int)-48:=(by unfold IntKind.wrap;simp[IntKind.signed,IntKind.bits];omega);go_wp2_with fail;go_round;exact⟨k+1,om,om,zg,by rw[Hy.o];congr 1;simp;omega,zh (by rw[Hy.o])⟩;exact zm1
    . have hl:k=s.size:=om;subst hl;have p:=zh (r.o om l.o);have N:=zh (Hg.o om);have F:=cb4 (sgI s) Hc.o;obtain⟨x,K⟩:=nq (sgI s);obtain⟨u,Q⟩:=nq (j8 x);rw[<-K]at p N F;rw[<-Q]at p F;rw[<-R.o]at N;clear K Q;have q:=b05 (x:=u) (y:=s);by_cases hg:a=1
      . have X:Hid (x = -(n:Int)):=zh (by rw[N.o,if_pos];by_cases C:bt s 0=45;exact C;exfalso;have:=O.o C;omega);have hz:IntKind.i64.wrap (-(n:Int)) = -(n:Int):=oD _ om;rw[X.o]at F;subst hg;by_cases j:u=s
        . rw[decide_eq_true j]at q;have H:=zh (p.o.trans (if_pos j));clear j;go_wp2_with(go_at_call 77;refine cm (F _) fun P E=>?_);exact br (.tuple #[vi (-(n:Int)),.bool true]) ⟨by rw[H.o,X.o],E⟩
        . exact zz91
      . have X:Hid (x=(n:Int)):=zh (by rw[N.o,if_neg];intro C;have:=T.o C;omega);have hC:((a:Int) == 1)=false:=(by rw[beq_eq_false_iff_ne];omega);rw[X.o]at F;by_cases j:u=s
        . rw[decide_eq_true j]at q;have H:=zh (p.o.trans (if_pos j));clear j;go_wp2_with(go_at_call 77;refine cm (F _) fun P E=>?_);exact br (.tuple #[vi (n:Int),.bool true]) ⟨by rw[H.o,X.o],E⟩
        . exact zz91
 have z:inB ((s.size:Int)-a) 1 9=false:=c86.2 I;have hr:IntKind.i64.wrap ((s.size:Int)-a)=(s.size:Int)-a:=oD _ om;have c:=fun W=>H8 ((s.size:Int)-a) 1 9 W;simp only[z]at c;have H:=zh (Hf.o om);clear I;go_wp2_with(go_at_call 168;refine(c _).mono ?_;rintro e P⟨rfl,rfl⟩);exact br (.tuple #[vi 0,.bool false]) ⟨by rw[H.o],er _⟩
theorem zz110{P:Prop}(h:P:=by have p:=zh (c om);have B:=zh H;have D:=zh M;clear Y c H M C;go_wp2_with fail;go_round;exact⟨i+1,om,zg,by rw[p.o,<-B.o],by rw[p.o,<-D.o]⟩;exact zm1):P:=h
theorem zz165{P:Prop}(h:P:=by have z:=zh (N.o om);go_wp2_with fail;exact br (.tuple #[vi 0,.bool false]) ⟨by rw[z.o],er _⟩):P:=h
theorem bd0(S:s.size<=100000):
 Calls Tryz.prog 39 #[.string s] w (RE w (.tuple #[vi (pI s).1,.bool (pI s).2])):=by
 have Hb:=zh (j41 s);have g:Hid (sgI s=if bt s 0=45 then -((pv s (min s.size 11)).1:Int)else(pv s (min s.size 11)).1):=zh rfl;have f:=zh (fun h=>j05 (s:=s) h);have N:=zh (fun h=>dn9 (s:=s) h);go_in;go_wp2_with fail;go_loop [4,5,6] (fun R kv I=>∃k:Nat,k<=min s.size 11/\I=vi k/\R=vi ((pv s k).1:Nat)/\kv=vi ((pv s k).2:Nat)) (fun _ _ I=>s.size-(intOf I).toNat);exact⟨0,om,rfl,rfl,rfl⟩
 obtain⟨i,J,rfl,rfl,rfl⟩:=hrel;have T:=jn0 s i om;have P:=(do1 s i).2;by_cases U:i<s.size/\i<11
 . obtain⟨U,hA⟩:=U;have Y:=j21 s i;have c:=jn1 s i;obtain⟨n,H⟩:=nq ((pv s i).1);obtain⟨m,M⟩:=nq ((pv s i).2);obtain⟨b,C⟩:=nq (bt s i);have K:(s[i]'U).toNat=b:=(by rw[b19,C]);have hl:=lf3 s i;rw[<-C]at hl Y c;rw[<-H]at T Y|-;rw[<-M]at P Y|-;have hz:(i:Int)<11:=om;by_cases ha:48<=b
   . have hf:(48:Int)<=b:=om;by_cases hh:b<=57
     . have hg:(b:Int)<=57:=om;have p:=zh (Y ⟨ha,hh⟩);have G:IntKind.u8.wrap ((b:Int)-48)=(b:Int)-48:=(by unfold IntKind.wrap;simp[IntKind.signed,IntKind.bits];omega);clear Y c H M C;go_wp2_with fail;go_round;exact⟨i+1,om,zg,by rw[p.o];congr 1;simp;omega,by rw[p.o];congr 1⟩;exact zm1
     have hg:¬(b:Int)<=57:=om;exact zz110
   have hf:¬(48:Int)<=b:=om;exact zz110
 have r:i=min s.size 11:=om;have Z:¬(i<s.size)\/(i<s.size/\¬(i:Int)<11):=om;rw[<-r]at g f N;clear r;obtain⟨n,H⟩:=nq ((pv s i).1);obtain⟨m,M⟩:=nq ((pv s i).2);rw[<-H]at T g|-;rw[<-M]at P f N|-;clear H M U;rcases Z with X|⟨X,hp⟩;all_goals(
  go_upto_region 9 with fail
  go_cut [44] (fun l W=>l=.bool (decide (bt s 0=45))/\w=W)
  case first =>
   by_cases V:0<s.size
   . obtain⟨b,C⟩:=nq (bt s 0);have K:(s[0]'V).toNat=b:=(by rw[b19,C]);have ht:(0:Int)<s.size:=om;by_cases Q:b=45
     . have hd:decide (bt s 0=45)=true:=decide_eq_true (by rw[<-C];exact Q);have d:=zh hd;clear C hd;subst Q;exact zz80
     . have d:=zh (show decide (bt s 0=45)=false from decide_eq_false (by rw[<-C];exact Q));have ho:((b:Int) == 45)=false:=(by rw[beq_eq_false_iff_ne];omega);clear Q C;exact zz80
   . have d:=zh (show decide (bt s 0=45)=false from decide_eq_false (by rw[jd0 s 0 om];decide));exact zz80
  case rest =>
   obtain⟨rfl,rfl⟩:=hcut;go_upto_if 44 with fail;go_cut [4] (fun l W=>l=vi (sgI s)/\w=W);case first =>
    by_cases C:bt s 0=45
    . have hd:=decide_eq_true C;have A:=zh (g.o.trans (if_pos C));have hr:IntKind.i64.wrap (-(n:Int)) = -(n:Int):=oD _ om;go_wp2_with fail;go_meet;exact⟨by rw[A.o],rfl⟩
    . have hd:=decide_eq_false C;have A:=zh (g.o.trans (if_neg C));go_wp2_with fail;go_meet;exact⟨by rw[A.o],rfl⟩
   case rest =>
    obtain⟨rfl,rfl⟩:=hcut;have F:=c54 (sgI s) Hb.o;obtain⟨x,K⟩:=nq (sgI s);obtain⟨u,L⟩:=nq (j8 x);rw[<-K]at f N F|-;rw[<-L]at f N F;have O:=b05 (x:=u) (y:=s);clear K L;by_cases hw:9<m
    . have hj:(9:Int)<m:=om;exact zz165
    . have hj:¬(9:Int)<m:=om;by_cases hy:10<s.size
      . have hk:(10:Int)<s.size:=om;exact zz165
      . have hk:¬(10:Int)<s.size:=om;by_cases j:u=s
        . rw[decide_eq_true j]at O;have z:=zh (f.o ⟨om,om,j⟩);clear j;go_wp2_with(go_at_call 97;refine cm (F _) fun e E=>?_);exact br (.tuple #[vi x,.bool true]) ⟨by rw[z.o],E⟩
        . rw[decide_eq_false j]at O;have z:=zh (N.o (fun q=>j q.2.2));clear j;go_wp2_with(go_at_call 97;refine cm (F _) fun e E=>?_);exact br (.tuple #[vi 0,.bool false]) ⟨by rw[z.o],E⟩)
end Go.Zz
