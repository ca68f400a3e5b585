/- Groups out of texts: ParseGroup of the reference. -/
import Derived.Test.YtjhoafjeopcheaaGreatGr15
set_option linter.all false
set_option maxHeartbeats 1000000
set_option maxRecDepth 4000
namespace Go.Zz
open Go.RowKit Go.Proofs
theorem la5(D:List Ba)(p:Ba):pIs (D++[p])=pIs D++[(pI p).1]:=by unfold pIs;rw[pF];rfl
theorem lm8{s:Ba}(r:¬s=b66){D R:List Ba}{p:Ba}(H:p7 120 s=D++p :: R)(h:(pI p).2=false):pgB s=false/\pgV s=[]:=by
 have V:D.length<(p7 120 s).length:=by rw[H];simp
 refine lv6 r V ?_;have e:m8 (p7 120 s) D.length=p:=by rw[H];simp[m8,List.getD]
 rw[e];exact h
theorem zz95{P:Prop}(h:P:=by exact bodyPost_ret (v:=.tuple #[.agg #[.slice none 0 0],.bool false]) (by simp[results,Tryz.results21,go_sem,c]) rfl ⟨_,by rw[z.o.1],by rw[z.o.2];exact c8.nil _,hF.2.1⟩):P:=h
theorem b88(s:Ba)(w:World)(S:s.size<=100000):Calls Tryz.prog 21 #[.string s] w fun e w'=>∃v,e=.returned (.tuple #[.agg #[v],.bool (pgB s)])/\c8 w' v (pgV s)/\Ext w w':=by
 obtain⟨wa,a,R⟩:=j10 w;have hC:w.heap.size≠w.heap.size+1:=om;have t:=R.hG.cell (i:=0) (v:=.slice none 0 0) rfl;have Y:=R.hG.free 0;have Z:=R.hR.cell (i:=0) (v:=.slice none 0 0) rfl;have fr:=R.hR.free 0;have F:=R.fin (oc _) (.slice none 0 0);by_cases m:s=b66
 . have Hv:=zh (j09 m);have hq:=bn6 s b66 (decide_eq_true m);change (s.toList == [49])=true at hq;clear m;rw[a.o]at t Y Z fr;go_in;go_wp2_with fail;rw[<-a.o]at Z|-;exact bodyPost_ret (v:=.tuple #[.agg #[.slice none 0 0],.bool true]) (by simp[results,Tryz.results21,go_sem,Z]) rfl ⟨_,by rw[Hv.o.1],by rw[Hv.o.2];exact c8.nil _,R.hE⟩
 have hq:=bn6 s b66 (decide_eq_false m);change (s.toList == [49])=false at hq;by_cases O:10<s.size
 . have z:=zh (lm9 O);have hK:¬(s.size:Int)<=10:=om;have hS:s.toList.isEmpty=false:=b65 (fun e=>by rw[e]at O;exact absurd O (by decide));have f:=G7 _ _ wa (R.hO.ints);have hz:fgF []=b66:=(by decide);rw[hz]at f;have hf:=(b05 (x:=b66) (y:=s)).trans (decide_eq_false (fun e=>m e.symm));clear m O hz F;rw[a.o]at t Y Z fr;go_in;go_wp2_with fail;rw[<-a.o];rw[<-a.o]at t Y Z fr;go_loopw [5,6] (fun pv G wr=>pv=.string mtB/\G=vi 0/\wr=wa) (fun _ _ _=>0);exact⟨rfl,rfl,rfl⟩;case round =>
    obtain⟨rfl,rfl,rfl⟩:=hrel;go_wp2_with(go_at_call 44;refine cm f fun l I=>?_;have H:=R.ext I;have za:=H.hR.cell (i:=0) (v:=.slice none 0 0) rfl;have fr2:=H.hR.free 0;have hF:=H.fin (oc _) (.slice none 0 0);have c:=hF.1);exact zz95
 have hK:(s.size:Int)<=10:=om;have Hg:=zh (fun h=>do0 (s:=s) h);have Ho:=zh (fun h=>d55 (s:=s) m h);have Ha:=zh (fun r h=>j11 (s:=s) m r h);have Hd:=zh (fun D E p (hD:p7 120 s=D++p :: E) h=>lm8 (s:=s) m hD h);obtain⟨L,ha⟩:=nq (p7 120 s);rw[<-ha]at Ho Ha Hd;have HL:=zh ha;have hM:L.length<=11:=(by rw[ha];have:=(K6 120 s).2.1;omega);clear m ha F;rw[a.o]at t Y Z fr;go_in;go_wp2_with fail;rw[<-a.o];clear t Y Z fr;go_loopw [5,6] (fun pv G wr=>∃(k:Nat) (p:Ba) (D:List Ba) (Q:Option Addr) (C n:Nat),pv=.string p/\G=vi k/\p.size<=s.size/\p.size<=k/\D.length<=L.length/\n=(pIs D).length/\PGb w wr w.heap.size (w.heap.size+1) (.slice Q n C) (pIs D)/\Hid ((k<=s.size/\L=D++Z3 120 s k p)\/(k=s.size+1/\L=D))) (fun _ G _=>s.size+1-(intOf G).toNat);exact⟨0,_,[],none,0,0,rfl,rfl,oX _,oX _,oX _,rfl,R,zh (Or.inl ⟨oX _,HL.o⟩)⟩;case round =>
  clear R;obtain⟨k,p,D,Q,C,n,rfl,rfl,hT,hQ,hw,hl,R,HH⟩:=hrel;have Hb:=zh hl;clear hl;have t:=R.hG.cell (i:=0) (v:=.slice Q n C) rfl;by_cases V:k<=s.size
  . have hv:(k:Int)<=s.size:=om;have J:Hid (L=D++Z3 120 s k p):=zh (by rcases HH.o with q|q;exact q.2;exact absurd q.1 om);clear HH;by_cases B:k<s.size/\¬(bt s k:Int)=120
    . obtain⟨U,T⟩:=B;have N:Hid (L=D++Z3 120 s (k+1) (p++s.extract k (k+1))):=zh (J.o.trans (by rw[bn2 120 s k p U T]));obtain⟨b,hb⟩:∃b,b=bt s k:=⟨_,rfl⟩;have K:(s[k]'U).toNat=b:=(by rw[b19,hb]);rw[<-hb]at T;have hL:((b:Int) != 120)=true:=(by simp;exact T);have h1:(s.extract k (k+1)).size=1:=(by rw[pP];omega);have r:(p++s.extract k (k+1)).size=p.size+1:=(by rw[oe,h1]);clear T hb;go_wp2_with fail;go_roundw;exact⟨k+1,_,D,Q,C,n,rfl,zg,om,om,hw,Hb.o,R,zh (Or.inl ⟨om,N.o⟩)⟩;exact zm1
    . have hH:∃E,L=D++p :: E/\((k+1<=s.size/\L=(D++[p])++Z3 120 s (k+1) ⟨#[]⟩)\/(k+1=s.size+1/\L=D++[p])):=by
       by_cases U:k<s.size
       . have T:(bt s k:Int)=120:=oU fun q=>B ⟨U,q⟩;have e:=J.o.trans (by rw[bu3 120 s k p U T]);exact⟨_,e,Or.inl ⟨U,by rw[pr];exact e⟩⟩
       . have e:=J.o.trans (by rw[bu2 120 s k p om]);exact⟨[],e,Or.inr ⟨om,e⟩⟩
      obtain⟨E,hg,hj⟩:=hH
      have He:=zh hg
      have Hf:=zh hj
      have hU:D.length+1<=L.length:=by rw[hg];simp
      have hJ:p.size<=100000:=om
      have P:=fun W=>bd0 p W hJ
      have hm:(∃(U:k<s.size),(s[k]'U).toNat=120)\/¬(k:Int)<s.size:=by
       by_cases U:k<s.size
       . have T:(bt s k:Int)=120:=oU fun q=>B ⟨U,q⟩;exact Or.inl ⟨U,by rw[b19];omega⟩
       . exact Or.inr om
      clear hg hj B J
      cases A:(pI p).2
      . rw[A]at P
        have z:=zh (Hd.o D E p He.o A)
        obtain⟨n',ho⟩:∃n',n'=(pI p).1:=⟨_,rfl⟩
        rw[<-ho]at P
        clear ho A
        rcases hm with⟨U,K⟩|U
        all_goals(
         go_wp2_with(go_at_call 39;refine cm (P _) fun l I=>?_;have H:=R.ext I;have za:=H.hR.cell (i:=0) (v:=.slice none 0 0) rfl;have fr2:=H.hR.free 0;have hF:=H.fin (oc _) (.slice none 0 0);have c:=hF.1)
         exact bodyPost_ret (v:=.tuple #[.agg #[.slice none 0 0],.bool false]) (by simp[results,Tryz.results21,go_sem,c]) rfl ⟨_,by rw[z.o.1],by rw[z.o.2];exact c8.nil _,hF.2.1⟩)
      . rw[A]at P
        have g:=zh (la5 D p)
        obtain⟨y,hy⟩:=nq ((pI p).1)
        rw[<-hy]at P g
        have hh:(pIs D).length<17592186044416:=by unfold pIs;rw[oG];omega
        obtain⟨PP,hP⟩:=nq (pIs D)
        rw[<-hP]at hh R Hb g
        clear hP hy A
        rcases hm with⟨U,K⟩|U
        all_goals(
         go_wp2_with(first|(go_at_call 39;refine cm (P _) fun l I=>?_;have H:=R.ext I;have z2:=H.hG.cell (i:=0) (v:=.slice Q n C) rfl)|(at_builtin;refine b33 slI rfl _ _ rfl w _ _ _ _ H.hO H.hE hh rfl rfl ?_;intro v3 w3 he hr hN;obtain⟨X,hX⟩:=nq (PP++[y]);rw[<-hX]at he;have HX:=zh hX;clear hX;obtain⟨a3,c3,rfl,-⟩:=he.shape;obtain⟨hi,ht⟩:=H.app he hr hC om;have z3:=hi.cell (i:=0) (v:=.slice Q n C) rfl;have f3:=hi.free 0))
         go_roundw
         case rel=>exact⟨k+1,_,D++[p],a3,c3,_,rfl,zg,oX _,oX _,by simp;omega,by rw[g.o,<-HX.o],by rw[g.o,<-HX.o];exact ht,Hf⟩
         case measure=>exact zm1)
  . have hv:¬(k:Int)<=s.size:=om;have Ht:Hid (D=L):=zh (by rcases HH.o with q|q;exact absurd q.1 V;exact q.2.symm);have d:PGb w wr w.heap.size (w.heap.size+1) (.slice Q n C) (pIs L):=(by rw[<-Ht.o];exact R);have Z:=d.hR.cell (i:=0) (v:=.slice none 0 0) rfl;have fr:=d.hR.free 0;have f:=G7 _ _ _ (d.hO.ints);obtain⟨u,hu⟩:=nq (fgF (pIs L));rw[<-hu]at f Ho Ha;have hf:=b05 (x:=u) (y:=s);have F:=d.fin (oc _) (.slice none 0 0);have c:=F.1;clear R hu;by_cases M:s=mtB
    . have z:=zh (Hg.o M);have hB:s.toList.isEmpty=true:=(by rw[M,pi];rfl);clear M;go_wp2_with fail;exact bodyPost_ret (v:=.tuple #[.agg #[.slice none 0 0],.bool false]) (by simp[results,Tryz.results21,go_sem,c]) rfl ⟨_,by rw[z.o.1],by rw[z.o.2];exact c8.nil _,F.2.1⟩
    . have hB:=b65 M;by_cases j:u=s
      . rw[decide_eq_true j]at hf;have z:=zh (Ha.o M j);clear j M c F;go_wp2_with(go_at_call 44;refine cm f fun l I=>?_;have H:=d.ext I;have z2:=H.hG.cell (i:=0) (v:=.slice Q n C) rfl;have za:=H.hR.cell (i:=0) (v:=.slice none 0 0) rfl;have fr2:=H.hR.free 0;have hF:=H.fin (oc _) (.slice Q n C);have c:=hF.1);exact bodyPost_ret (v:=.tuple #[.agg #[.slice Q n C],.bool true]) (by simp[results,Tryz.results21,go_sem,c]) rfl ⟨_,by rw[z.o.1],by rw[z.o.2];exact hF.2.2.ints,hF.2.1⟩
      . rw[decide_eq_false j]at hf;have z:=zh (Ho.o j);clear j M c F;go_wp2_with(go_at_call 44;refine cm f fun l I=>?_;have H:=d.ext I;have za:=H.hR.cell (i:=0) (v:=.slice none 0 0) rfl;have fr2:=H.hR.free 0;have hF:=H.fin (oc _) (.slice none 0 0);have c:=hF.1);exact zz95
end Go.Zz
