/- The shortest part with the sum 0; claims of sequences. -/
import Derived.Test.YtnnbhcalddkmmaaGreatGr15
set_option linter.unusedSimpArgs false
set_option linter.unusedVariables false
set_option linter.unnecessarySimpa false
set_option maxHeartbeats 2000000
set_option maxRecDepth 100000
namespace Go.Zz
open Go.RowKit Go.Proofs
theorem dz4:∀{A B:List Nat},b9 A=b9 B->A=B:=fun {A B} e=>by
 have:=congrArg (List.map Int.toNat) e
 simpa[b9,Function.comp_def] using this
theorem dz5(X:List Nat):(b9 X).map Int.toNat=X:=by simp[b9,Function.comp_def]
theorem b85{l:List Int}{X:List Nat}(h:D2 l (b9 X)=true):X.length<=12∧j1 l=true∧∀x∈X,x<24:=by
 obtain⟨X',e1,-,h12,hgr,hall⟩:=N6 h;obtain rfl:=dz4 e1;exact⟨h12,hgr,hall⟩
theorem ce1(v u:Value)(l:List Int)(X:List Nat)(w:World)(h:c9 w v l)(hu:c9 w u (b9 X))(hs:D2 l (b9 X)=true) :
 Calls Tryz.prog 128 #[.agg #[v],u] w fun e w'=>∃p,e=.returned (.tuple #[p,.bool (szB l X)])∧Own 3 w w' p (b9 (szR l X))∧Ext w w':=by
 obtain⟨wb,Hwb,hE0,hb,hg,hE,Hsz⟩:=ju3 28 h;clear h;obtain⟨h12,hgr,hall⟩:=b85 hs;have Hgu:Hid (∀W,Ext wb W->c9 W u (b9 X)):=zh fun W hW=>hu.ext (hE0.trans hW);obtain⟨ao,c,adr,rfl,hadr,hcell⟩:=hu.nats;have Hat:=zh (fun (k:Nat) a b c=>ju1 (l:=l) h12 (k:=k) a b c);have Hnone:=zh (fun a=>jo5 (l:=l) h12 a);clear hall hgr hadr hcell hu;go_in;go_wp2_with fail;rw[<-Hwb.out];go_loopw [6] (fun i wr=>∃k:Nat,1<=k∧k<=X.length+1∧i=.int .i64 k∧(∀j,1<=j->j<k->bd3 l X j=false)∧Ext wb wr) (fun i _=>X.length+1 - (intOf i).toNat);case atStart=>exact⟨1,om,om,rfl,om,hE⟩
 case round =>
  clear hE;obtain⟨k,hk1,hk2,rfl,hno,hE⟩:=hrel;have Hno:=zh hno;have hbx:=hb _ hE;clear hno;by_cases hlt:k<=X.length
  . cases hz:bd3 l X k
    . have Hz:=zh hz;go_wp2_with (first | (go_at_call 124;refine cx (E5 _ _ _ _ _ (hg _ hE) (Hgu.out _ hE) hs) hE ?_;clear hE;intro w' hE) | (go_at_call 236;refine (bh9 _ _ _ _ _ _ (hg _ hE) (Hgu.out _ hE) hs hk1 hlt).mono ?_;rw[hz];rintro e w' ⟨p,rfl,hO,hE'⟩;replace hE:=hE.trans hE';clear hE'));go_roundw;(case rel=>exact⟨k+1,om,om,zg,fun j h1 hj=>by by_cases e:j=k;(subst e;exact Hz.out);exact Hno.out j h1 om,hE⟩);case measure=>exact zm1
    . have Hz:=zh (Hat.out k hk1 Hno.out hz);go_wp2_with (first | (go_at_call 124;refine cx (E5 _ _ _ _ _ (hg _ hE) (Hgu.out _ hE) hs) hE ?_;clear hE;intro w' hE) | (go_at_call 236;refine (bh9 _ _ _ _ _ _ (hg _ hE) (Hgu.out _ hE) hs hk1 hlt).mono ?_;rw[hz];rintro e w' ⟨p,rfl,hO,hE'⟩;replace hO:=hO.mono hE;replace hE:=hE.trans hE';clear hE'));exact bodyPost_ret (v:=.tuple #[p,.bool true]) (by simp[results,Tryz.results128,go_sem]) rfl ⟨_,by rw[Hz.out.2],by rw[Hz.out.1];exact hO.mono hE0,hE0.trans hE⟩
  . have Hz:=zh (Hnone.out fun j h1 hj=>Hno.out j h1 om);have hO:Own 3 wr (wr.alloc (.cells #[] 3)) (.slice (some ⟨wr.heap.size,0,none⟩) 0 0) (b9 []):=m7 (TI:=3) (n:=0) om (er wr) [] rfl;go_wp2_with fail;exact bodyPost_ret (v:=.tuple #[.slice (some ⟨wr.heap.size,0,none⟩) 0 0,.bool false]) (by simp[results,Tryz.results128,go_sem]) rfl ⟨_,by rw[Hz.out.2],by rw[Hz.out.1];exact hO.mono (hE0.trans hE),hE0.trans (hE.alloc _)⟩
theorem zz18{P:Prop}(h:P:=by clear h0;go_wp2_with (first | (go_at_call 133;refine (E8 _ _ _ _ _ (hg _ hE) (Hgu.out _ hE) hs).mono ?_;rintro e w' ⟨rfl,hE'⟩;replace hO:=hO.ext hE';replace hE:=hE.trans hE';clear hE') | (go_at_call 244;refine (bd8 _ _ _ _ (Hgu.out _ hE) hc24 om).mono ?_;rintro e w1 ⟨x1,rfl,hO1,hE1⟩;obtain⟨ao1,c1,e1⟩:=hO1.nshape;rw[<-Hl1.out] at e1;subst e1;replace hO1:=hO1.mono hE;replace hO:=hO.ext hE1;replace hE:=hE.trans hE1;clear hE1) | (go_at_call 134;refine (Y1 _ _ _ _ _ (hg _ hE) hO1.ints Hgr (zh fun x hx=>Hall.out x (Y2 hx))).mono ?_;rintro e w' ⟨rfl,hE'⟩;replace hO:=hO.ext hE';replace hO1:=hO1.ext hE';replace hE:=hE.trans hE';clear hE'));go_roundw;(case rel=>exact⟨c'+1,om,om,zg,by rw[Hn.out];unfold bk6;rw[if_neg om];exact hO1,hE⟩);case measure=>exact zm1):P:=h
theorem ca7(v u:Value)(l:List Int)(X:List Nat)(w:World)(h:c9 w v l)(hu:c9 w u (b9 X))(hs:D2 l (b9 X)=true) :
 Calls Tryz.prog 136 #[.agg #[v],u] w fun e w'=>∃p,e=.returned (.tuple #[p,.bool (szB l X)])∧Own 3 w w' p (b9 (szR l X))∧Ext w w':=by
 obtain⟨wb,Hwb,hE0,hb,hg,hE,Hsz⟩:=ju3 28 h;clear h;obtain⟨h12,hgr,hall⟩:=b85 hs;have Hall:=zh hall;have Hgr:=zh hgr;have hp:=de7 h12;have hp1:=T3 X.length;have hs1:=p6 (n:=X.length) om;have Hgu:Hid (∀W,Ext wb W->c9 W u (b9 X)):=zh fun W hW=>hu.ext (hE0.trans hW);obtain⟨ao,c,adr,rfl,hadr,hcell⟩:=hu.nats;have Hone:=zh (jf5 l X);have Hspec:=zh (bo1 l X);have Hyes:=zh (fun (c:Nat) a b d=>dh2 (l:=l) (X:=X) (c:=c) a b d);have Hno:=zh (fun (c:Nat) a=>jo4 (l:=l) (X:=X) (c:=c) a);have Hlen:=zh (fun (b:Nat) a=>jf4 h12 (b:=b) a);have Hpl:=zh (fun (b:Nat) a=>cz8 (X:=X) om (m:=b) a);have hO:Own 3 wb (wb.alloc (.cells #[] 3)) (.slice (some ⟨wb.heap.size,0,none⟩) 0 0) (b9 (bk6 X (J1 l X 1))):=by
  rw[Hone.out];exact m7 (TI:=3) (n:=0) om (er wb) [] rfl
 have hEl:=hE.alloc (.cells #[] 3);clear hall hgr hadr hcell hu;go_in;go_wp2_with fail;rw[<-Hwb.out];rw[Hsz.out];go_loopw [6,7] (fun p i wr=>∃c:Nat,1<=c∧c<=pw X.length∧i=.int .i64 c∧Own 3 wb wr p (b9 (bk6 X (J1 l X c)))∧Ext wb wr) (fun _ i _=>pw X.length - (intOf i).toNat);case atStart=>exact⟨1,om,om,rfl,hO,hEl⟩
 case round =>
  clear hE hEl hO;obtain⟨c',hc1,hc2,rfl,hO,hE⟩:=hrel;obtain⟨c0,HB⟩:∃B,Hid (B=J1 l X c'):=⟨_,zh rfl⟩;rw[<-HB.out] at hO;have HBl:Hid (c0<pw X.length):=zh (by
   rcases Hspec.out c' with ⟨h,_⟩ | ⟨_,h,_⟩
   . rw[HB.out,h];omega
   . rw[HB.out];omega)
  obtain⟨n2,Hl2⟩:∃n2,Hid (n2=(bk6 X c0).length):=⟨_,zh rfl⟩;obtain⟨ao2,c2,e2⟩:=hO.nshape;rw[<-Hl2.out] at e2;subst e2;have HL2:Hid (n2=cnt c0):=zh (by rw[Hl2.out];exact Hlen.out c0 (by have:=HBl.out;unfold pw at this;exact this));have hn24:n2<=24:=by rw[HL2.out];exact r9 _
  by_cases hlt:c'<pw X.length
  . have hc24:c'<2 ^ 24:=(by omega);obtain⟨n1,Hl1⟩:∃n1,Hid (n1=(r8 X c').length):=⟨_,zh rfl⟩;have HL1:Hid (n1=cnt c'):=zh (by rw[Hl1.out];exact Hpl.out c' (by unfold pw at hlt;exact hlt));have hn1:n1<=24:=(by rw[HL1.out];exact r9 _);have H0:Hid (cnt c0=0↔c0=0):=zh ⟨fun e=>by
     by_cases h:c0=0
     . exact h
     . have:=R6 (a:=c0) om (by have:=HBl.out;omega);omega,fun e=>by rw[e];exact W7⟩
    by_cases ht:tot l (r8 X c')=0
    . have hq:((tot l (r8 X c'):Int) == 0)=true:=(by rw[ht];simp);have Ht:=zh ht;clear ht;by_cases h0:n2=0
      . have Hn:Hid (J1 l X (c'+1)=c'):=zh (Hyes.out c' om Ht.out (Or.inl (by rw[<-HB.out];exact H0.out.1 (by rw[<-HL2.out];exact h0))));have hz:((n2:Int) == 0)=true:=(by rw[h0];rfl);exact zz18
      . have hz:((n2:Int) == 0)=false:=(by simp;omega);by_cases h3:n1<n2
        . have Hn:Hid (J1 l X (c'+1)=c'):=zh (Hyes.out c' om Ht.out (Or.inr (by rw[<-HB.out,<-HL1.out,<-HL2.out];exact h3)));exact zz18
        . have Hn:Hid (J1 l X (c'+1)=c0):=zh ((Hno.out c' (by
           rintro⟨_,e | e⟩
           . exact h0 (by rw[HL2.out];exact H0.out.2 (by rw[HB.out];exact e))
           . rw[<-HB.out,<-HL1.out,<-HL2.out] at e;exact h3 e)).trans HB.out.symm)
          clear h0
          go_wp2_with (first | (go_at_call 133;refine (E8 _ _ _ _ _ (hg _ hE) (Hgu.out _ hE) hs).mono ?_;rintro e w' ⟨rfl,hE'⟩;replace hO:=hO.ext hE';replace hE:=hE.trans hE';clear hE') | (go_at_call 244;refine (bd8 _ _ _ _ (Hgu.out _ hE) hc24 om).mono ?_;rintro e w1 ⟨x1,rfl,hO1,hE1⟩;obtain⟨ao1,c1,e1⟩:=hO1.nshape;rw[<-Hl1.out] at e1;subst e1;replace hO1:=hO1.mono hE;replace hO:=hO.ext hE1;replace hE:=hE.trans hE1;clear hE1) | (go_at_call 134;refine (Y1 _ _ _ _ _ (hg _ hE) hO1.ints Hgr (zh fun x hx=>Hall.out x (Y2 hx))).mono ?_;rintro e w' ⟨rfl,hE'⟩;replace hO:=hO.ext hE';replace hO1:=hO1.ext hE';replace hE:=hE.trans hE';clear hE'))
          go_roundw
          case rel=>exact⟨c'+1,om,om,zg,by rw[Hn.out];exact hO,hE⟩
          case measure=>exact zm1
    . have hq:((tot l (r8 X c'):Int) == 0)=false:=(by simp;omega);have Hn:Hid (J1 l X (c'+1)=c0):=zh ((Hno.out c' (fun e=>ht e.1)).trans HB.out.symm);clear ht;go_wp2_with (first | (go_at_call 133;refine (E8 _ _ _ _ _ (hg _ hE) (Hgu.out _ hE) hs).mono ?_;rintro e w' ⟨rfl,hE'⟩;replace hO:=hO.ext hE';replace hE:=hE.trans hE';clear hE') | (go_at_call 244;refine (bd8 _ _ _ _ (Hgu.out _ hE) hc24 om).mono ?_;rintro e w1 ⟨x1,rfl,hO1,hE1⟩;obtain⟨ao1,c1,e1⟩:=hO1.nshape;rw[<-Hl1.out] at e1;subst e1;replace hO1:=hO1.mono hE;replace hO:=hO.ext hE1;replace hE:=hE.trans hE1;clear hE1) | (go_at_call 134;refine (Y1 _ _ _ _ _ (hg _ hE) hO1.ints Hgr (zh fun x hx=>Hall.out x (Y2 hx))).mono ?_;rintro e w' ⟨rfl,hE'⟩;replace hO:=hO.ext hE';replace hO1:=hO1.ext hE';replace hE:=hE.trans hE';clear hE'));go_roundw;(case rel=>exact⟨c'+1,om,om,zg,by rw[Hn.out];exact hO,hE⟩);case measure=>exact zm1
  . have hcl:c'=pw X.length:=(by omega);have HcB:Hid (c0=szN l X):=zh (by rw[HB.out,hcl];rfl);have Hz:Hid (decide ((0:Int)<(n2:Int))=szB l X):=zh (by
     unfold szB;rw[<-HcB.out,HL2.out];by_cases h:c0=0
     . rw[h,W7];rfl
     . have:=R6 (a:=c0) om (by have:=HBl.out;omega);rw[decide_eq_true (show (0:Int)<(cnt c0:Int) by omega),decide_eq_true h])
    clear hcl;go_wp2_with fail;exact bodyPost_ret (v:=.tuple #[.slice ao2 n2 c2,.bool (szB l X)]) (by simp[results,Tryz.results136,go_sem,<-Hz.out]) rfl ⟨_,rfl,by unfold szR;rw[<-HcB.out];exact hO.mono hE0,hE0.trans hE⟩
theorem bf9(X:List Nat)(x m:Nat):r8 (X++[x]) m=r8 X m++(if m.testBit X.length then [x] else []):=by
 unfold r8;rw[List.length_append,List.length_singleton,List.range_succ,List.filter_append,List.map_append];congr 1
 . apply List.map_congr_left;intro i hi;have:=List.mem_range.1 (List.mem_filter.1 hi).1;simp[d8,List.getD,List.getElem?_append_left this]
 . cases h:m.testBit X.length<;>simp[h,d8,List.getD]
theorem bk2{P:List Nat->Prop}(h0:P [])(h1:∀X x,P X->P (X++[x])):∀(n:Nat) (X:List Nat),X.length=n->P X
 | 0,X,h=>by rw[List.eq_nil_of_length_eq_zero h];exact h0
 | n+1,X,h=>by
  rcases List.eq_nil_or_concat X with rfl | ⟨Y,y,rfl⟩
  . simp at h
  . rw[List.concat_eq_append] at h ⊢
    exact h1 Y y (bk2 h0 h1 n Y (by simpa using h))
theorem dg8{Y Z:List Nat}{x:Nat}(h:Y.Sublist (Z++[x])):Y.Sublist Z∨∃Y',Y=Y'++[x]∧Y'.Sublist Z:=by
 obtain⟨A,B,rfl,hA,hB⟩:=List.sublist_append_iff.1 h;cases B with
 | nil=>left;simpa using hA
 | cons b B =>
  have hl:=hB.length_le;have:B=[]:=by simpa using hl
  subst this;have:b=x:=by have:=hB.subset (List.mem_singleton.2 rfl);simpa using this
  subst this;exact Or.inr ⟨A,rfl,hA⟩
theorem j40(X:List Nat)(m:Nat):(r8 X m).Sublist X:=by
 refine bk2 (P:=fun X=>(r8 X m).Sublist X) ?_ ?_ _ X rfl
 . simp[r8]
 . intro X x ih;rw[bf9];refine ih.append ?_;split
   . exact List.Sublist.refl _
   . exact List.nil_sublist _
theorem j39(X:List Nat){m m':Nat}(h:∀i,i<X.length->m.testBit i=m'.testBit i):r8 X m=r8 X m':=by
 unfold r8;congr 1;apply List.filter_congr;intro i hi;exact h i (List.mem_range.1 hi)
theorem jf0{X:List Nat}:∀{Y},Y.Sublist X->∃m,m<2 ^ X.length∧r8 X m=Y:=by
 refine bk2 (P:=fun X=>∀{Y},Y.Sublist X->∃m,m<2 ^ X.length∧r8 X m=Y) ?_ ?_ _ X rfl
 . intro Y h;have:Y=[]:=(by simpa using h);subst this;exact⟨0,zm,by simp[r8]⟩
 . intro X x ih Y h;rcases dg8 h with h' | ⟨Y',rfl,h'⟩
   . obtain⟨m,hm,rfl⟩:=ih h';refine⟨m,by simp[Nat.pow_succ];omega,?_⟩;rw[bf9,Nat.testBit_lt_two_pow hm];simp
   . obtain⟨m,hm,rfl⟩:=ih h';refine⟨m ||| 2 ^ X.length,Nat.or_lt_two_pow (by rw[List.length_append,List.length_singleton,Nat.pow_succ];omega) (Nat.pow_lt_pow_right om zm),?_⟩;rw[bf9,Nat.testBit_or,Nat.testBit_two_pow_self,Bool.or_true];simp only[if_true];congr 1;refine j39 X fun i hi=>?_;rw[Nat.testBit_or,Nat.testBit_two_pow];simp[show ¬X.length=i by omega]
theorem jd7(X:List Nat){m:Nat}(h:∀i,i<X.length->m.testBit i=true):r8 X m=X:=by
 unfold r8;rw[List.filter_eq_self.2 (by intro i hi;exact h i (List.mem_range.1 hi))];apply List.ext_getElem
 . simp
 . intro i h1 h2;simp[d8,List.getD,h2]
theorem dr7{l:List Int}(hg:j1 l=true)(X:List Nat):(∀x∈X,x<ord l)->∀z,(sbs l X).testBit z=true↔∃Y,Y.Sublist X∧Y≠[]∧tot l Y=z:=by
 have ho:=m9 hg;have hob:=m8 hg;refine bk2 (P:=fun X=>(∀x∈X,x<ord l)->∀z,(sbs l X).testBit z=true↔∃Y,Y.Sublist X∧Y≠[]∧tot l Y=z) ?_ ?_ _ X rfl
 . intro _ z;constructor
   . intro h;simp[sbs] at h
   . rintro⟨Y,h1,h2,-⟩;exact absurd (by simpa using h1) h2
 . intro X x ih hX z;have hXo:∀y∈X,y<ord l:=fun y hy=>hX y (by simp[hy]);have hx:x<ord l:=hX x zm;have ih:=ih hXo;have hbd:=ba6 hg X (fun y hy=>by have:=hXo y hy;omega);rw[ci6,Nat.testBit_or,Nat.testBit_or,Bool.or_eq_true,Bool.or_eq_true,ih z,D0,Nat.testBit_two_pow,decide_eq_true_eq];constructor
   . rintro ((⟨Y,h1,h2,h3⟩ | ⟨y,hy,hb,he⟩) | rfl)
     . exact⟨Y,h1.trans (List.sublist_append_left X [x]),h2,h3⟩
     . obtain⟨Y,h1,h2,h3⟩:=(ih y).1 hb;exact⟨Y++[x],h1.append (List.Sublist.refl _),zm,by rw[bd1,h3,D4];exact he⟩
     . exact⟨[x],List.sublist_append_right X [x],zm,by show m6 l 0 x=x;exact A7 l ho x hx⟩
   . rintro⟨Y,h1,h2,h3⟩;rcases dg8 h1 with h | ⟨Y',e,h⟩
     . exact Or.inl (Or.inl ⟨Y,h,h2,h3⟩)
     . subst e;by_cases he:Y'=[]
       . subst he;right;rw[<-h3];show x=m6 l 0 x;exact (A7 l ho x hx).symm
       . refine Or.inl (Or.inr ⟨tot l Y',?_,(ih _).2 ⟨Y',h,he,rfl⟩,?_⟩)
         . exact nlt (be3 hg Y') (Nat.le_refl _)
         . rw[bd1,D4] at h3;exact h3
def exI(X:List Nat)(i:Nat):List Nat:=X.take i++X.drop (i+1)
theorem j07(X:List Nat)(i:Nat):exI X i=X.eraseIdx i:=by unfold exI;rw[List.eraseIdx_eq_take_drop_succ]
theorem jk3{X:List Nat}{i:Nat}(h:i<X.length):(exI X i).length+1=X.length:=by
 unfold exI;rw[List.length_append,List.length_take,List.length_drop];omega
theorem c79(X:List Nat)(i:Nat):(exI X i).Sublist X:=by rw[j07];exact List.eraseIdx_sublist X i
theorem ja0(X:List Nat)(x:Nat):exI (X++[x]) X.length=X:=by unfold exI;simp
theorem ja1{X:List Nat}(x:Nat){i:Nat}(h:i<X.length):exI (X++[x]) i=exI X i++[x]:=by
 unfold exI;rw[List.take_append_of_le_length om,List.drop_append_of_le_length om,List.append_assoc]
theorem jm9(X:List Nat)(m:Nat):∀i,i<X.length->m.testBit i=false->(r8 X m).Sublist (exI X i):=by
 refine bk2 (P:=fun X=>∀i,i<X.length->m.testBit i=false->(r8 X m).Sublist (exI X i)) ?_ ?_ _ X rfl
 . intro i hi;simp at hi
 . intro X x ih i hi hb;rw[bf9];by_cases e:i=X.length
   . subst e;rw[hb,ja0];simp only[Bool.false_eq_true,if_false,List.append_nil];exact j40 X m
   . have hi':i<X.length:=(by simp at hi;omega);rw[ja1 x hi'];refine (ih i hi' hb).append ?_;split
     . exact List.Sublist.refl _
     . exact List.nil_sublist _
def mnB(l:List Int)(X:List Nat):Bool:=(List.range X.length).all fun i=>!(sbs l (exI X i)).testBit 0
def pmB(l:List Int)(X:List Nat):Bool:=(List.range (pw X.length - 1)).all fun m=>decide (m=0) || decide (tot l (r8 X m)≠0)
theorem c89{l:List Int}{X:List Nat}:mnB l X=true↔∀i,i<X.length->(sbs l (exI X i)).testBit 0=false:=by
 unfold mnB;simp[List.all_eq_true]
theorem ct3{l:List Int}{X:List Nat}:pmB l X=true↔∀m,m<pw X.length - 1->m≠0->tot l (r8 X m)≠0:=by
 unfold pmB;simp only[List.all_eq_true,List.mem_range,Bool.or_eq_true,decide_eq_true_eq];constructor
 . intro H m h1 h2;rcases H m h1 with e | e
   . exact absurd e h2
   . exact e
 . intro H m h1;by_cases e:m=0
   . exact Or.inl e
   . exact Or.inr (H m h1 e)
theorem jd6{X:List Nat}{m:Nat}(hm:m<2 ^ X.length)(h:m≠0):r8 X m≠[]:=by
 intro e;obtain⟨i,hi⟩:=Nat.exists_testBit_of_ne_zero h;have hil:i<X.length:=by
  rcases Nat.lt_or_ge i X.length with q | q
  . exact q
  . rw[U2 hm q] at hi;cases hi
 have:d8 X i∈r8 X m:=by
  unfold r8;exact List.mem_map.2 ⟨i,List.mem_filter.2 ⟨List.mem_range.2 hil,hi⟩,rfl⟩
 rw[e] at this;cases this
theorem ju0{l:List Int}(hg:j1 l=true){X:List Nat}(hX:∀x∈X,x<ord l):pmB l X=mnB l X:=by
 rw[Bool.eq_iff_iff,ct3,c89];have hp:pw X.length=2 ^ X.length:=rfl;constructor
 . intro H i hi;rw[<-Bool.not_eq_true,dr7 hg _ (fun x hx=>hX x ((c79 X i).subset hx))];rintro⟨Y,h1,h2,h3⟩;obtain⟨m,hm,rfl⟩:=jf0 (h1.trans (c79 X i));refine H m ?_ ?_ h3
   . rw[hp];rcases Nat.lt_or_ge m (2 ^ X.length - 1) with q | q
     . exact q
     . exfalso;have e:m=2 ^ X.length - 1:=om;have:=h1.length_le;rw[jd7 X (fun j hj=>by rw[e,Nat.testBit_two_pow_sub_one];simpa using hj)] at this;have:=jk3 hi;omega
   . rintro rfl;exact h2 (by simp[r8])
 . intro H m h1 h2 h3;rw[hp] at h1;have hm:m<2 ^ X.length:=om;have hi:∃i,i<X.length∧m.testBit i=false:=by
    apply Classical.byContradiction;intro hn;have e:m=2 ^ X.length - 1:=by
     apply Nat.eq_of_testBit_eq;intro j;rw[Nat.testBit_two_pow_sub_one];by_cases hj:j<X.length
     . cases hb:m.testBit j
       . exact absurd ⟨j,hj,hb⟩ hn
       . simp[hj]
     . rw[U2 hm om];simp[hj]
    omega
   obtain⟨i,hi,hb⟩:=hi;have:=H i hi;rw[<-Bool.not_eq_true,dr7 hg _ (fun x hx=>hX x ((c79 X i).subset hx))] at this;exact this ⟨r8 X m,jm9 X m i hi hb,jd6 hm h2,h3⟩
def b09(l xs:List Int):Bool:=zsB l xs&&(decide (xs.length≠0)&&mnB l (xs.map Int.toNat))
theorem dn3{l xs:List Int}(h:zsB l xs=false):b09 l xs=false:=by unfold b09;rw[h];rfl
theorem d58(l:List Int):b09 l []=false:=by unfold b09;simp
theorem bu5{l:List Int}{X:List Nat}(h:zsB l (b9 X)=true)(h0:X≠[]):b09 l (b9 X)=mnB l X:=by
 unfold b09;rw[h,bw7];have:(b9 X).length≠0:=by rw[j2];intro e;exact h0 (List.eq_nil_of_length_eq_zero e)
 simp[this]
theorem jm1{l:List Int}{X:List Nat}(h0:X≠[])(h:(sbs l (X.take (X.length - 1))).testBit 0=true):mnB l X=false:=by
 rw[<-Bool.not_eq_true,c89];intro H;have hl:0<X.length:=List.length_pos_iff.2 h0;have:=H (X.length - 1) om;have e:exI X (X.length - 1)=X.take (X.length - 1):=by
  unfold exI;rw[List.drop_eq_nil_of_le om,List.append_nil]
 rw[e,h] at this;cases this
theorem zz128{P:Prop}(h:P:=by go_in;go_wp2_with fail;rw[<-Hwb.out];go_wp2_with (refine (cZ _ hE).mono ?_;rintro e w1 ⟨rfl,hE1⟩);go_ret;exact⟨j5 Hs.out.symm,hE0.trans (hE.trans hE1)⟩):P:=h
theorem cj8(v u:Value)(l xs:List Int)(w:World)(h:c9 w v l)(hu:c9 w u xs) :
 Calls Tryz.prog 131 #[.agg #[v],u] w fun e w'=>e=.returned (.bool (b09 l xs))∧Ext w w':=by
 obtain⟨wb,Hwb,hE0,hb,hg,hE,Hsz⟩:=ju3 28 h;clear h;have HU:=zh (fun W (hW:Ext wb W)=>hu.ext (hE0.trans hW));have cZ:=fun W (hW:Ext wb W)=>be5 v u l xs W (hg W hW) (HU.out W hW);have hbx:=hb _ hE;cases hz:zsB l xs
 . have Hs:=zh (dn3 hz);rw[hz] at cZ;clear hu hz;exact zz128
 . rw[hz] at cZ;have hseq:D2 l xs=true:=by
    cases hs:D2 l xs
    . rw[cp8 hs] at hz;cases hz
    . rfl
   obtain⟨X,rfl,hXo,h12,hgr,hall⟩:=N6 hseq;by_cases h0:X=[]
   . subst h0;have Hs:Hid (b09 l (b9 [])=false):=zh (d58 l);obtain⟨ao,c,adr,rfl,-,-⟩:=hu.nats;clear hz;exact zz128
   . have Hs:Hid (b09 l (b9 X)=pmB l X):=zh ((bu5 hz h0).trans (ju0 hgr hXo).symm);have Hall:=zh hall;have Hgr:=zh hgr;have hp:=de7 h12;have hp1:=T3 X.length;have hs1:=p6 (n:=X.length) om;obtain⟨ao,c,adr,rfl,-,-⟩:=hu.nats;have hlq:(((X.length:Nat):Int) == 0)=false:=by
      rw[beq_eq_false_iff_ne];intro e;exact h0 (List.eq_nil_of_length_eq_zero om)
     clear hu hz hall hgr h0 hseq hXo;go_in;go_wp2_with fail;rw[<-Hwb.out];go_wp2_with (refine (cZ _ hE).mono ?_;rintro e w1 ⟨rfl,hE1⟩);replace hE:=hE1;clear hE1 hbx cZ;go_loopw [5] (fun i wr=>∃m:Nat,1<=m∧i=.int .i64 m∧m<=4096∧Hid (∀j,j<m->j<pw X.length - 1->j≠0->tot l (r8 X j)≠0)∧Ext wb wr) (fun i _=>4096 - (intOf i).toNat);(case atStart=>exact⟨1,om,rfl,om,zh (fun j h1 h2 h3=>om),hE⟩);case round =>
      clear hE;obtain⟨m,hm1,rfl,hm2,Hno,hE⟩:=hrel;obtain⟨N,hN⟩:=nq (pw X.length);rw[<-hN] at hp hp1 hs1 Hno;have HN:=zh hN;clear hN;by_cases hlt:m<N - 1
      . have hltI:(m:Int)<(N:Int) - 1:=(by omega);have hm24:m<2 ^ 24:=om;have hbw:∀W,Ext wr W->W.cell? ⟨w.heap.size,0,none⟩=some v:=fun W hW=>hb W (hE.trans hW);have hgw:∀W,Ext wr W->c9 W v l:=fun W hW=>hg W (hE.trans hW);have Hgw:Hid (∀W,Ext wr W->c9 W (.slice ao X.length c) (b9 X)):=zh fun W hW=>HU.out W (hE.trans hW);have hE1:=hE;clear hE;have hE:=er wr;by_cases ht:tot l (r8 X m)=0
        . have Hk:Hid (pmB l X=false):=zh (by
           rw[<-Bool.not_eq_true,ct3];intro H;exact H m (by rw[<-HN.out];exact hlt) om ht)
          have hq2:((tot l (r8 X m):Int) == 0)=true:=by rw[ht];simp
          have hbx:=hbw wr hE
          clear ht
          go_wp2_with fail
          have hD:=(er (wr)).drew
          first | (go_region_held3 (fun W=>Ext (wr) W∧W.cell? ⟨w.heap.size,0,none⟩=some v) (exact⟨xq,hbw _ xq⟩) (first | (go_at_call 242;((with_reducible refine Calls.mono (bj4 _ _ _ _ (Hgw.out _ xq) hm24 om) ?_);rintro e wH0 ⟨vP,rfl,hOP,hX0⟩;have hH0:=Ext.trans (a:=wr) xq hX0)) | (go_at_call 234;((with_reducible refine Calls.mono (b42 _ _ _ _ _ (hgw _ xq) hOP.ints Hgr (zh fun x hx=>Hall.out x (Y2 hx))) ?_);rintro e wH1 ⟨rfl,hX1⟩;have hH1:=Ext.trans (a:=wr) xq hX1)))) | (fail "the region with calls")
          go_wp2_with fail
          go_ret
          exact⟨j5 (by rw[Hs.out,Hk.out]),hE0.trans (hE1.trans xq)⟩
        . have Ht:=zh ht;have hq2:((tot l (r8 X m):Int) == 0)=false:=(by simp;omega);have hbx:=hbw wr hE;clear ht;go_wp2_with fail;have hD:=(er (wr)).drew;(first | (go_region_held3 (fun W=>Ext (wr) W∧W.cell? ⟨w.heap.size,0,none⟩=some v) (exact⟨xq,hbw _ xq⟩) (first | (go_at_call 242;((with_reducible refine Calls.mono (bj4 _ _ _ _ (Hgw.out _ xq) hm24 om) ?_);rintro e wH0 ⟨vP,rfl,hOP,hX0⟩;have hH0:=Ext.trans (a:=wr) xq hX0)) | (go_at_call 234;((with_reducible refine Calls.mono (b42 _ _ _ _ _ (hgw _ xq) hOP.ints Hgr (zh fun x hx=>Hall.out x (Y2 hx))) ?_);rintro e wH1 ⟨rfl,hX1⟩;have hH1:=Ext.trans (a:=wr) xq hX1)))) | (fail "the region with calls"));go_wp2_with fail;go_roundw;(case rel=>exact⟨m+1,om,zg,om,zh (fun j p1 p2 p3=>by by_cases e:j=m;(subst e;exact Ht.out);exact Hno.out j om (by rw[HN.out];exact p2) p3),hE1.trans xq⟩);case measure=>exact zm1
      . have hltI:¬(m:Int)<(N:Int) - 1:=(by omega);have Hk:Hid (pmB l X=true):=zh (ct3.2 fun j p1 p2=>Hno.out j (by have:=HN.out;omega) (by have:=HN.out;omega) p2);go_wp2_with fail;go_ret;exact⟨j5 (by rw[Hs.out,Hk.out]),hE0.trans hE⟩
theorem dz3(X:List Nat)(i:Nat):(b9 X).take i++(b9 X).drop (i+1)=b9 (exI X i):=by
 unfold exI b9;simp[List.map_take,List.map_drop]
theorem c55(v u:Value)(l:List Int)(X:List Nat)(w:World)(h:c9 w v l)(hu:c9 w u (b9 X))(Hgr:Hid (j1 l=true))(hX:∀x∈X,x<ord l)(hl12:X.length<=100) :
 Calls Tryz.prog 246 #[.agg #[v],u] w fun e w'=>e=.returned (.bool (mnB l X))∧Ext w w':=by
 obtain⟨wb,Hwb,hE0,hb,hg,hE,Hsz⟩:=ju3 28 h;clear h;have hob:=m8 Hgr.out;have HU:=zh (fun W (hW:Ext wb W)=>hu.ext (hE0.trans hW));obtain⟨ao,c,adr,rfl,hadr,hcell⟩:=hu.nats;have hcap:X.length<=c:=by
  obtain⟨_,_,hv,hc,_⟩:=hu;rw[j2] at hv hc;simp only[Value.slice.injEq] at hv;omega
 have HX:=zh (fun i x (hx:x∈exI X i)=>hX x ((c79 X i).subset hx));clear hadr hcell hu hX;go_in;go_wp2_with fail;rw[<-Hwb.out];go_loopw [5] (fun si wr=>∃i:Nat,i<=X.length∧si=.int .i64 i∧Hid (∀j,j<i->(sbs l (exI X j)).testBit 0=false)∧Ext wb wr) (fun si _=>X.length - (intOf si).toNat);case atStart=>exact⟨0,om,rfl,zh om,hE⟩
 case round =>
  clear hE;obtain⟨i,hi,rfl,HN,hE⟩:=hrel;by_cases hit:i<X.length
  . have hsl:=fun W=>b23 (P:=Tryz.prog) elI szI ao X.length c (i:Int) om om W;have hsa:=fun W=>Y3 (P:=Tryz.prog) elI szI ao X.length c (i:Int) om om W;have hfl:=fun W=>Q1 (P:=Tryz.prog) elI szI ao X.length c ((i:Int)+1) om om W;have hfa:=fun W=>O9 (P:=Tryz.prog) elI szI ao X.length c ((i:Int)+1) om om W;rw[show ((i:Int)).toNat=i by omega] at hsl hsa;rw[show ((i:Int)+1).toNat=i+1 by omega] at hfl hfa;have hw1:IntKind.i64.wrap ((i:Int)+1)=(i:Int)+1:=IntWalk.i64_in _ om;have hcl:=j2 X;have HA:=zh (fun W (hW:Ext wr W)=>(HU.out W (hE.trans hW)).take (k:=i) om);have HB:=zh (fun W (hW:Ext wr W)=>(HU.out W (hE.trans hW)).drop (k:=i+1) om);have hln:((b9 X).take i).length+((b9 X).drop (i+1)).length<=17592186044416:=(by rw[List.length_take,List.length_drop];omega);have Heq:=zh (dz3 X i);obtain⟨A,hA⟩:=nq ((b9 X).take i);obtain⟨B,hB⟩:=nq ((b9 X).drop (i+1));rw[<-hA] at HA hln Heq;rw[<-hB] at HB hln Heq;have hXe:=HX.out i;obtain⟨Y,hY⟩:=nq (exI X i);rw[<-hY] at Heq hXe;have HY:=zh hY;have cS:=fun W vy (hW:Ext wb W) (hy:c9 W vy (b9 Y))=>b47 v vy l Y W (hg W hW) hy Hgr (zh fun x hx=>by have:=hXe x hx;omega);have hS24:=ba6 Hgr.out Y (fun x hx=>by have:=hXe x hx;omega);obtain⟨S,hS⟩:=nq (sbs l Y);simp only[<-hS] at cS;rw[<-hS] at hS24;have HS:=zh hS;clear hA hB hcl hY hS hXe;have h1:=Q6 (a:=S) om;have hEb:=hE;clear hE;have hE:=er wr;go_wp2_with fail;(first | (go_region_held3 (fun W=>Ext wr W) (exact xq) (first | (have hOq:=hOC;refine q9 slI rfl _ _ rfl wr wr _ _ A B (Or.inr (by first | exact hOC | exact hOC.alloc _ | exact (hOC.alloc _).drew)) (HB.out _ xq) xq hln rfl rfl ?_;intro vD wD hOD hXD hTD) | (refine P0 slI rfl _ _ rfl _ _ A rfl rfl zq0 (HA.out _ xq) wr (by first | exact Nat.le_refl _ | omega | (simp;omega)) xq ?_;intro aoC cC wC hOC hZC hEC;have hXC:=Ext.trans (a:=wr) xq hEC))) | (fail "the region"));all_goals
     obtain⟨aoN,cN,rfl,hON,hEN⟩:=MiP.of hOD hXD
     have hEn:=hEb.trans hEN
     have hbn:=hb _ hEn
     generalize (A++B).length=nN at hON ⊢
     have hIn:c9 wD (.slice aoN nN cN) (b9 Y):=by rw[<-Heq.out];exact hON.ints
     cases ht:S.testBit 0
     . have hq:(((S % 2:Nat):Int) == 1)=false:=by rw[Nat.testBit_zero] at ht;rw[beq_eq_false_iff_ne];have:=of_decide_eq_false ht;omega
       have Ht:=zh ht
       clear ht
       go_wp2_with (go_at_call 135;refine (cS _ _ hEn hIn).mono ?_;rintro e w4 ⟨rfl,hE4⟩)
       go_roundw
       case rel=>exact⟨i+1,om,zg,zh fun j hj=>by by_cases e:j=i;(rw[e,<-HY.out,<-HS.out];exact Ht.out);exact HN.out j om,hEn.trans hE4⟩
       case measure=>exact zm1
     . have hq:(((S % 2:Nat):Int) == 1)=true:=by rw[Nat.testBit_zero] at ht;rw[beq_iff_eq];have:=of_decide_eq_true ht;omega
       have Hk:Hid (mnB l X=false):=zh (by
        rw[<-Bool.not_eq_true,c89];intro H;have:=H i hit;rw[<-HY.out,<-HS.out,ht] at this;cases this)
       clear ht
       go_wp2_with (go_at_call 135;refine (cS _ _ hEn hIn).mono ?_;rintro e w4 ⟨rfl,hE4⟩)
       go_ret
       exact⟨j5 Hk.out.symm,hE0.trans (hEn.trans hE4)⟩
  . have hil:i=X.length:=(by omega);have Hk:Hid (mnB l X=true):=zh (c89.2 fun j hj=>HN.out j om);go_wp2_with fail;go_ret;exact⟨j5 Hk.out.symm,hE0.trans hE⟩
theorem dl2(v u:Value)(l xs:List Int)(w:World)(h:c9 w v l)(hu:c9 w u xs) :
 Calls Tryz.prog 139 #[.agg #[v],u] w fun e w'=>e=.returned (.bool (b09 l xs))∧Ext w w':=by
 obtain⟨wb,Hwb,hE0,hb,hg,hE,Hsz⟩:=ju3 28 h;clear h;have HU:=zh (fun W (hW:Ext wb W)=>hu.ext (hE0.trans hW));have cZ:=fun W (hW:Ext wb W)=>bc7 v u l xs W (hg W hW) (HU.out W hW);have hbx:=fun U=>hb _ (d5 wb U);cases hz:zsB l xs
 . have Hs:=zh (dn3 hz);rw[hz] at cZ;obtain⟨ao,c,adr,rfl,-,-⟩:=hu.op;clear hz;go_in;go_wp2_with fail;rw[<-Hwb.out];(refine wl hE ?_);(repeat (go_big_quiet_step (first | (go_at_call 137;with_reducible exact Calls.lat (cZ _ (d5 wb _))))));(refine zd ?_);(clear hE);(intro W hE);go_wp2_with fail;exact zz17
 . rw[hz] at cZ;have hseq:D2 l xs=true:=by
    cases hs:D2 l xs
    . rw[cp8 hs] at hz;cases hz
    . rfl
   obtain⟨X,rfl,hXo,h12,hgr,hall⟩:=N6 hseq;by_cases h0:X=[]
   . subst h0;have Hs:Hid (b09 l (b9 [])=false):=zh (d58 l);obtain⟨ao,c,adr,rfl,-,-⟩:=hu.nats;clear hz;go_in;go_wp2_with fail;rw[<-Hwb.out];(refine wl hE ?_);(repeat (go_big_quiet_step (first | (go_at_call 137;with_reducible exact Calls.lat (cZ _ (d5 wb _))))));(refine zd ?_);(clear hE);(intro W hE);go_wp2_with fail;exact zz17
   . have Hs:Hid (b09 l (b9 X)=mnB l X):=zh (bu5 hz h0);have Hgr:=zh hgr;have hl0:0<X.length:=List.length_pos_iff.2 h0;have hcap:∀{W:World} {ao:Option Addr} {c:Nat},c9 W (.slice ao X.length c) (b9 X)->X.length<=c:=fun hI=>by
      obtain⟨_,_,hv,hc,_⟩:=hI
      rw[j2] at hv hc
      simp only[Value.slice.injEq] at hv
      omega
     obtain⟨ao,c,adr,rfl,-,-⟩:=hu.nats;have hc:=hcap hu;have hsl:=fun W=>b23 (P:=Tryz.prog) elI szI ao X.length c ((X.length:Int) - 1) om om W;have hsa:=fun W=>Y3 (P:=Tryz.prog) elI szI ao X.length c ((X.length:Int) - 1) om om W;rw[show ((X.length:Int) - 1).toNat=X.length - 1 by omega] at hsl hsa;have hltI:(0:Int)<(X.length:Int):=om;have cM:=fun W (hW:Ext wb W)=>c55 v _ l X W (hg W hW) (HU.out W hW) Hgr hXo om;have HT:=zh (fun W (hW:Ext wb W)=>(HU.out W hW).take (k:=X.length - 1) (by rw[j2];omega));have hct:(b9 X).take (X.length - 1)=b9 (X.take (X.length - 1)):=(by unfold b9;rw[List.map_take]);rw[hct] at HT;have hY24:∀x∈X.take (X.length - 1),x<24:=fun x hx=>hall x (List.mem_of_mem_take hx);have cS:=fun W (hW:Ext wb W)=>b47 v _ l (X.take (X.length - 1)) W (hg W hW) (HT.out W hW) Hgr (zh hY24);have hS24:=ba6 Hgr.out (X.take (X.length - 1)) hY24;have Hml:=zh (fun h=>jm1 (l:=l) h0 h);obtain⟨S,hS⟩:=nq (sbs l (X.take (X.length - 1)));simp only[<-hS] at cS;rw[<-hS] at hS24 Hml;clear hS hct hu hz hall hgr h0 hseq hXo hcap hY24 HT;have h1:=Q6 (a:=S) om;cases ht:S.testBit 0
     . have hq:(((S % 2:Nat):Int) == 0)=true:=(by rw[cr1,ht];rfl);have hq2:((S:Int) % 2 == 0)=true:=hq;clear ht;go_in;go_wp2_with fail;rw[<-Hwb.out];(refine wl hE ?_);(repeat (go_big_quiet_step (first | (go_at_call 137;with_reducible exact Calls.lat (cZ _ (d5 wb _))) | (go_at_call 135;with_reducible exact Calls.lat (cS _ (d5 wb _))) | (go_at_call 246;with_reducible exact Calls.lat (cM _ (d5 wb _))))));(refine zd ?_);(clear hE);(intro W hE);go_wp2_with fail;exact zz17
     . have hq:(((S % 2:Nat):Int) == 0)=false:=(by rw[cr1,ht];rfl);have hq2:((S:Int) % 2 == 0)=false:=hq;have Hk:=zh (Hml.out ht);clear ht;go_in;go_wp2_with fail;rw[<-Hwb.out];(refine wl hE ?_);(repeat (go_big_quiet_step (first | (go_at_call 137;with_reducible exact Calls.lat (cZ _ (d5 wb _))) | (go_at_call 135;with_reducible exact Calls.lat (cS _ (d5 wb _))) | (go_at_call 246;with_reducible exact Calls.lat (cM _ (d5 wb _))))));(refine zd ?_);(clear hE);(intro W hE);go_wp2_with fail;go_ret;exact⟨j5 (by rw[Hs.out,Hk.out]),hE0.trans hE⟩
def atZ(l:List Int)(X:List Nat):Nat:=p9 l (tot l X)
def atC(l:List Int)(X:List Nat)(m:Nat):Bool:=(decide (m<=atZ l X)&&(decide (X.length≠0) || decide (atZ l X=0)))&&mnB l (X++[atZ l X])
def atV(l:List Int)(X:List Nat)(m:Nat):List (List Nat):=if atC l X m then [X++[atZ l X]] else []
def atR(l:List Int):Nat->List Nat->Nat->Nat->List (List Nat)
 | 0,_,_,_=>[]
 | f+1,X,S,m=>(List.range (ord l)).foldl (fun (A:List (List Nat)) (x:Nat)=>if x<max 1 m then A else if (nxS l S x).testBit 0 then A else A++atR l f (X++[x]) (nxS l S x) x) (atV l X m)
def atK(l:List Int)(f:Nat)(X:List Nat)(S m k:Nat):List (List Nat):=(List.range k).foldl (fun (A:List (List Nat)) (x:Nat)=>if x<max 1 m then A else if (nxS l S x).testBit 0 then A else A++atR l f (X++[x]) (nxS l S x) x) (atV l X m)
theorem dn2(l:List Int)(f:Nat)(X:List Nat)(S m:Nat):atR l (f+1) X S m=atK l f X S m (ord l):=rfl
theorem bu3(l:List Int)(f:Nat)(X:List Nat)(S m k:Nat):atK l f X S m (k+1)=(if k<max 1 m then atK l f X S m k else if (nxS l S k).testBit 0 then atK l f X S m k else atK l f X S m k++atR l f (X++[k]) (nxS l S k) k):=by
 unfold atK;rw[List.range_succ,List.foldl_append];rfl
theorem c07(l:List Int)(f:Nat)(X:List Nat)(S m:Nat):∀k,k<=max 1 m->atK l f X S m k=atV l X m
 | 0,_=>rfl
 | k+1,hk=>by rw[bu3,if_pos om,c07 l f X S m k om]
theorem d57{l:List Int}{f:Nat}{X:List Nat}{S m k:Nat}(h:(nxS l S k).testBit 0=true):atK l f X S m (k+1)=atK l f X S m k:=by
 rw[bu3];split
 . rfl
 . first | rfl | rw[if_pos h]
theorem cq8{l:List Int}{f:Nat}{X:List Nat}{S m k:Nat}(hm:max 1 m<=k)(h:(nxS l S k).testBit 0=false):atK l f X S m (k+1)=atK l f X S m k++atR l f (X++[k]) (nxS l S k) k:=by
 rw[bu3,if_neg om,if_neg (by rw[h];simp)]
theorem bu2(l:List Int)(f:Nat)(X:List Nat)(S m k:Nat):∀d,(atK l f X S m k).length<=(atK l f X S m (k+d)).length
 | 0=>Nat.le_refl _
 | d+1=>by
  refine nle (bu2 l f X S m k d) ?_
  rw[<-Nat.add_assoc,bu3]
  split
  . exact Nat.le_refl _
  . split
    . exact Nat.le_refl _
    . rw[List.length_append];omega
def atL(l:List Int):List (List Nat):=atR l (ord l+1) [] 0 0
def dy3(n:Nat)(a:List Nat):Bool:=decide (1<=a.length)&&(decide (a.length<=7)&&a.all fun x=>decide (x<n))
def c70(l:List Int):Bool:=decide ((atL l).length<=48)&&(atL l).all (dy3 (ord l))
theorem ac0:c70 []=true:=by decide +kernel
theorem ac1:((List.range 8).all fun a=>decide (a<2) || c70 [(a:Int)])=true:=by decide +kernel
theorem ac2:((List.range 8).all fun a=>decide (a<2) || (List.range 8).all fun b=>decide (b<2) || (decide (7<a*b) || c70 [(a:Int),(b:Int)]))=true:=by decide +kernel
theorem b39{p:Prop}[Decidable p]{b:Bool}(h:(decide p || b)=true)(hn:¬p):b=true:=by
 rw[decide_eq_false hn] at h;simpa using h
theorem rgS{p:Nat->Bool}(h:(List.range 8).all p=true){a:Nat}(ha:a<=7):p a=true:=List.all_eq_true.1 h a (List.mem_range.2 om)
theorem dy4{l:List Int}(h:j1 l=true)(h7:ord l<=7):c70 l=true:=by
 have hc:=bc4 h;obtain⟨h3,hn,hp⟩:=(U8 l).1 h;have hp:A0 l<=7:=om;clear hc;match l,h3,hn,hp with
 | [],_,_,_=>exact ac0
 | [a],_,hn,hp =>
  have h0:2<=a∧a<=24:=hn 0 zm;have hp:a<=7:=by simpa[A0] using hp
  have:=b39 (rgS ac1 (a:=a.toNat) om) om;rwa [show ((a.toNat:Nat):Int)=a by omega] at this
 | [a,b],_,hn,hp =>
  have h0:2<=a∧a<=24:=hn 0 zm;have h1:2<=b∧b<=24:=hn 1 zm;have hpr:a*b<=7:=by simpa[A0] using hp
  have e:((a.toNat*b.toNat:Nat):Int)=a*b:=by rw[Int.natCast_mul];congr 1<;>omega
  have q1:a*2<=a*b:=Int.mul_le_mul_of_nonneg_left h1.1 om;have q2:2*b<=a*b:=Int.mul_le_mul_of_nonneg_right h0.1 om;have:=b39 (b39 (rgS (b39 (rgS ac2 (a:=a.toNat) om) om) (a:=b.toNat) om) om) om;rwa [show ((a.toNat:Nat):Int)=a by omega,show ((b.toNat:Nat):Int)=b by omega] at this
 | [a,b,c],_,hn,hp =>
  have h0:2<=a∧a<=24:=hn 0 zm;have h1:2<=b∧b<=24:=hn 1 zm;have h2:2<=c∧c<=24:=hn 2 zm;have hpr:a*b*c<=7:=by rw[Int.mul_assoc];simpa[A0] using hp
  have q0:2*2<=a*b:=Int.mul_le_mul h0.1 h1.1 om om;have q1:a*b*2<=a*b*c:=Int.mul_le_mul_of_nonneg_left h2.1 om;omega
 | _ :: _ :: _ :: _ :: _,h3,_,_=>simp at h3
theorem c08{l:List Int}(h:j1 l=true)(h7:ord l<=7):(atL l).length<=48:=by
 have:=dy4 h h7;unfold c70 at this;rw[Bool.and_eq_true,decide_eq_true_eq] at this;exact this.1
theorem bu4{l:List Int}(h:j1 l=true)(h7:ord l<=7){a:List Nat}(ha:a∈atL l):1<=a.length∧a.length<=7∧∀x∈a,x<ord l:=by
 have:=dy4 h h7;unfold c70 at this;rw[Bool.and_eq_true,List.all_eq_true] at this;have:=this.2 a ha;unfold dy3 at this;simpa[List.all_eq_true] using this
def I1:List Nat->List Nat->Int
 | [],[]=>0
 | [],_ :: _=>-1
 | _ :: _,[]=>1
 | a :: r,b :: s=>if a<b then -1 else if b<a then 1 else I1 r s
def L7(a b:List Nat):Int:=if a.length=b.length then I1 a b else (a.length:Int) - (b.length:Int)
theorem cv8:∀a b,I1 a b = - I1 b a
 | [],[]=>rfl
 | [],_ :: _=>rfl
 | _ :: _,[]=>rfl
 | a :: r,b :: s=>by
  unfold I1
  rw[cv8 r s]
  by_cases h1:a<b<;>by_cases h2:b<a
  . omega
  . simp[h1,h2]
  . simp[h1,h2]
  . simp[h1,h2]
theorem do0:∀a b,I1 a b=0->a=b
 | [],[],_=>rfl
 | [],_ :: _,h=>by simp[I1] at h
 | _ :: _,[],h=>by simp[I1] at h
 | a :: r,b :: s,h=>by
  unfold I1 at h
  by_cases h1:a<b
  . rw[if_pos h1] at h;omega
  . rw[if_neg h1] at h
    by_cases h2:b<a
    . rw[if_pos h2] at h;omega
    . rw[if_neg h2] at h
      rw[do0 r s h,show a=b by omega]
theorem ck7:∀a b c,I1 a b<=0->I1 b c<=0->I1 a c<=0
 | [],_,[],_,_=>by simp[I1]
 | [],_,_ :: _,_,_=>by simp[I1]
 | _ :: _,[],_,h,_=>by simp[I1] at h
 | _ :: _,_ :: _,[],_,h=>by simp[I1] at h
 | a :: r,b :: s,c :: t,h1,h2=>by
  unfold I1 at h1 h2 ⊢
  by_cases p1:a<b
  . by_cases p2:c<b
    . rw[if_neg om,if_pos p2] at h2;omega
    . rw[if_pos om];omega
  . rw[if_neg p1] at h1
    by_cases p3:b<a
    . rw[if_pos p3] at h1;omega
    . rw[if_neg p3] at h1
      have e:a=b:=om
      subst e
      by_cases p2:a<c
      . rw[if_pos p2];omega
      . rw[if_neg p2] at h2 ⊢
        by_cases p4:c<a
        . rw[if_pos p4] at h2;omega
        . rw[if_neg p4] at h2 ⊢
          exact ck7 r s t h1 h2
theorem b76(a b:List Nat):L7 a b = - L7 b a:=by
 unfold L7;by_cases h:a.length=b.length
 . rw[if_pos h,if_pos h.symm];exact cv8 a b
 . rw[if_neg h,if_neg (fun e=>h e.symm)];omega
theorem dn9{a b:List Nat}(h:L7 a b=0):a=b:=by
 unfold L7 at h;by_cases e:a.length=b.length
 . rw[if_pos e] at h;exact do0 a b h
 . rw[if_neg e] at h;omega
theorem bf4{a b c:List Nat}(h1:L7 a b<=0)(h2:L7 b c<=0):L7 a c<=0:=by
 unfold L7 at h1 h2 ⊢;by_cases e1:a.length=b.length<;>by_cases e2:b.length=c.length
 . rw[if_pos e1] at h1;rw[if_pos e2] at h2;rw[if_pos om];exact ck7 a b c h1 h2
 . rw[if_neg e2] at h2;rw[if_neg om];omega
 . rw[if_neg e1] at h1;rw[if_neg om];omega
 . rw[if_neg e1] at h1;rw[if_neg e2] at h2;by_cases e3:a.length=c.length
   . omega
   . rw[if_neg e3];omega
theorem dz7(a:List Nat):L7 a a=0:=by have:=b76 a a;omega
def leA(a b:List Nat):Prop:=L7 a b<=0
theorem jb7{a b:List Nat}(h1:leA a b)(h2:leA b a):a=b:=by
 unfold leA at h1 h2;rw[b76] at h2;exact dn9 om
theorem cp0:∀{A B:List (List Nat)},A.Perm B->A.Pairwise leA->B.Pairwise leA->A=B
 | [],B,h,_,_=>by rw[List.nil_perm.1 h]
 | a :: A,[],h,_,_=>by have:=h.length_eq;simp at this
 | a :: A,b :: B,h,hA,hB=>by
  rw[List.pairwise_cons] at hA hB
  have e:a=b:=by
   have h1:a∈b :: B:=h.subset zm;have h2:b∈a :: A:=h.symm.subset zm;rw[List.mem_cons] at h1 h2;rcases h1 with h1 | h1
   . exact h1
   . rcases h2 with h2 | h2
     . exact h2.symm
     . exact jb7 (hA.1 b h2) (hB.1 a h1)
  subst e
  rw[cp0 ((List.perm_cons a).1 h) hA.2 hB.2]
def Q7(x:List Nat)(o:List (List Nat)):Nat->Nat
 | 0=>0
 | k+1=>if L7 x (o.getD k [])<0 then Q7 x o k else k+1
def bw2(x:List Nat)(o:List (List Nat)):List (List Nat):=o.take (Q7 x o o.length)++[x]++o.drop (Q7 x o o.length)
def isA(L:List (List Nat)):List (List Nat):=L.foldl (fun o x=>bw2 x o) []
theorem cf7(L:List (List Nat))(x:List Nat):isA (L++[x])=bw2 x (isA L):=by unfold isA;rw[List.foldl_append];rfl
theorem dq6(x:List Nat)(o:List (List Nat)):∀k,Q7 x o k<=k
 | 0=>Nat.le_refl _
 | k+1=>by
  have:=dq6 x o k
  unfold Q7;split<;>omega
theorem cx9(x:List Nat)(o:List (List Nat)):∀k,k<=o.length->(∀j,Q7 x o k<=j->j<k->L7 x (o.getD j [])<0)∧(0<Q7 x o k->¬L7 x (o.getD (Q7 x o k - 1) [])<0)
 | 0,_=>⟨fun j h1 h2=>om,fun h=>by simp[Q7] at h⟩
 | k+1,hk=>by
  obtain⟨h1,h2⟩:=cx9 x o k om
  by_cases h:L7 x (o.getD k [])<0
  . have e:Q7 x o (k+1)=Q7 x o k:=by rw[Q7,if_pos h]
    rw[e]
    refine⟨fun j p1 p2=>?_,h2⟩
    by_cases q:j=k
    . rw[q];exact h
    . exact h1 j p1 om
  . have e:Q7 x o (k+1)=k+1:=by rw[Q7,if_neg h]
    rw[e]
    exact⟨fun j p1 p2=>om,fun _=>by simpa using h⟩
theorem j17(x:List Nat)(o:List (List Nat)):(bw2 x o).Perm (o++[x]):=by
 unfold bw2;have h1:(o.take (Q7 x o o.length)++[x]++o.drop (Q7 x o o.length)).Perm (o.take (Q7 x o o.length)++(o.drop (Q7 x o o.length)++[x])):=by
  rw[List.append_assoc];exact List.Perm.append_left _ (List.perm_append_comm)
 rw[<-List.append_assoc,List.take_append_drop] at h1;exact h1
theorem bw4(L:List (List Nat)):(isA L).Perm L:=by
 have:∀n,n<=L.length->(isA (L.take n)).Perm (L.take n):=by
  intro n;induction n with
  | zero=>intro _;simp[isA]
  | succ n ih =>
   intro hn;rw[List.take_succ_eq_append_getElem om,cf7];exact (j17 _ _).trans ((ih om).append_right _)
 have h:=this L.length (Nat.le_refl _);rwa [List.take_length] at h
theorem jn1{o:List (List Nat)}(h:o.Pairwise leA){i j:Nat}(hij:i<j)(hj:j<o.length):leA (o.getD i []) (o.getD j []):=by
 have:=List.pairwise_iff_getElem.1 h i j om hj hij;simpa[List.getD,show i<o.length by omega,hj] using this
theorem dj6(x:List Nat){o:List (List Nat)}(h:o.Pairwise leA):(bw2 x o).Pairwise leA:=by
 obtain⟨h1,h2⟩:=cx9 x o o.length (Nat.le_refl _);have hle:=dq6 x o o.length;unfold bw2;generalize Q7 x o o.length=k at h1 h2 hle;have hhi:∀y∈o.drop k,leA x y:=by
  intro y hy;obtain⟨i,hi,rfl⟩:=List.getElem_of_mem hy;rw[List.length_drop] at hi;have:=h1 (k+i) om om;unfold leA;simp only[List.getElem_drop];simp only[List.getD,List.getElem?_eq_getElem (show k+i<o.length by omega),Option.getD_some] at this;omega
 have hlo:∀y∈o.take k,leA y x:=by
  intro y hy;obtain⟨i,hi,rfl⟩:=List.getElem_of_mem hy;rw[List.length_take] at hi;have hk0:0<k:=om;have q:=h2 hk0;have q1:leA (o.getD (k - 1) []) x:=by unfold leA;rw[b76];omega
  by_cases e:i=k - 1
  . subst e;simp only[List.getElem_take];simpa[List.getD,show k - 1<o.length by omega] using q1
  . have q2:=jn1 h (show i<k - 1 by omega) om;have:=bf4 q2 q1;simp only[List.getElem_take];simpa[leA,List.getD,show i<o.length by omega] using this
 rw[List.append_assoc,List.pairwise_append];refine⟨h.sublist (List.take_sublist _ _),?_,?_⟩
 . rw[List.singleton_append,List.pairwise_cons];exact⟨hhi,h.sublist (List.drop_sublist _ _)⟩
 . intro a ha b hb;rw[List.singleton_append,List.mem_cons] at hb;rcases hb with rfl | hb
   . exact hlo a ha
   . exact bf4 (hlo a ha) (hhi b hb)
theorem dv8(L:List (List Nat)):(isA L).Pairwise leA:=by
 have:∀n,n<=L.length->(isA (L.take n)).Pairwise leA:=by
  intro n;induction n with
  | zero=>intro _;simp[isA]
  | succ n ih =>
   intro hn;rw[List.take_succ_eq_append_getElem om,cf7];exact dj6 _ (ih om)
 have h:=this L.length (Nat.le_refl _);rwa [List.take_length] at h
theorem dl8{L B:List (List Nat)}(h:B.Perm L)(hs:B.Pairwise leA):B=isA L:=cp0 (h.trans (bw4 L).symm) hs (dv8 L)
def atS(l:List Int):List (List Nat):=isA (atL l)
theorem bg5(l:List Int):(atS l).length=(atL l).length:=(bw4 _).length_eq
theorem c71{l:List Int}{a:List Nat}(h:a∈atS l):a∈atL l:=(bw4 _).subset h
def O5(R:List Int)(a:List Nat):List Int:=a.foldl (fun (T:List Int) (x:Nat)=>I7 (x:Int) T) R
theorem j03{x:Int}{R:List Int}(h:x∈R):(I7 x R).length+1=R.length:=by
 unfold I7;rw[List.length_reverse,List.length_erase_of_mem (by simpa using h),List.length_reverse];have:=List.length_pos_of_mem h;omega
theorem bh3:∀(a:List Nat) (R:List Int),P2 R (b9 a)=true->(O5 R a).length+a.length=R.length
 | [],R,_=>rfl
 | x :: a,R,h=>by
  by_cases hx:(x:Int)∈R
  . have h2:P2 (I7 (x:Int) R) (b9 a)=true:=by
     rw[show b9 (x :: a)=(x:Int) :: b9 a from rfl,cj2 hx] at h;exact h
    have:=bh3 a _ h2
    have:=j03 hx
    show (O5 (I7 (x:Int) R) a).length+(a.length+1)=R.length
    omega
  . rw[show b9 (x :: a)=(x:Int) :: b9 a from rfl,cu3 hx] at h;cases h
theorem b83:∀(a:List Nat) (R:List Int),P2 R (b9 a)=true->∀y:Nat,(O5 R a).count (y:Int)+a.count y=R.count (y:Int)
 | [],R,_,y=>rfl
 | x :: a,R,h,y=>by
  by_cases hx:(x:Int)∈R
  . have h2:P2 (I7 (x:Int) R) (b9 a)=true:=by
     rw[show b9 (x :: a)=(x:Int) :: b9 a from rfl,cj2 hx] at h;exact h
    have e:=b83 a _ h2 y
    rw[bo8 _ _ _ hx] at e
    show (O5 (I7 (x:Int) R) a).count (y:Int)+(x :: a).count y=R.count (y:Int)
    have h3:0<R.count (x:Int):=List.count_pos_iff.2 hx
    rw[List.count_cons]
    by_cases q:x=y
    . subst q;simp at e ⊢;omega
    . have q2:¬(x:Int)=(y:Int):=by omega
      rw[if_neg q2] at e
      simp[q];omega
  . rw[show b9 (x :: a)=(x:Int) :: b9 a from rfl,cu3 hx] at h;cases h
def R8(A:List (List Nat)):Nat->Nat->List Int->List Nat
 | 0,_,_=>[]
 | f+1,i0,R=>if R.length=0 then [0] else (List.range A.length).foldl (fun (o:List Nat) (i:Nat)=>if i<i0 then o else if P2 R (b9 (A.getD i [])) then o++(R8 A f i (O5 R (A.getD i []))).map (· + 1) else o) []
def R9(A:List (List Nat))(f i0:Nat)(R:List Int)(k:Nat):List Nat:=(List.range k).foldl (fun (o:List Nat) (i:Nat)=>if i<i0 then o else if P2 R (b9 (A.getD i [])) then o++(R8 A f i (O5 R (A.getD i []))).map (· + 1) else o) []
theorem bm4{A:List (List Nat)}{f i0:Nat}{R:List Int}(h:R.length=0):R8 A (f+1) i0 R=[0]:=by unfold R8;rw[if_pos h]
theorem bi6{A:List (List Nat)}{f i0:Nat}{R:List Int}(h:R.length≠0):R8 A (f+1) i0 R=R9 A f i0 R A.length:=by
 conv=>lhs;unfold R8
 rw[if_neg h];rfl
theorem b06(A:List (List Nat))(f i0:Nat)(R:List Int)(k:Nat):R9 A f i0 R (k+1)=(if k<i0 then R9 A f i0 R k else if P2 R (b9 (A.getD k [])) then R9 A f i0 R k++(R8 A f k (O5 R (A.getD k []))).map (· + 1) else R9 A f i0 R k):=by
 unfold R9;rw[List.range_succ,List.foldl_append];rfl
theorem b12(A:List (List Nat))(f i0:Nat)(R:List Int):∀k,k<=i0->R9 A f i0 R k=[]
 | 0,_=>rfl
 | k+1,hk=>by rw[b06,if_pos om,b12 A f i0 R k om]
theorem dp3{A:List (List Nat)}{f i0:Nat}{R:List Int}{k:Nat}(h:P2 R (b9 (A.getD k []))=false):R9 A f i0 R (k+1)=R9 A f i0 R k:=by
 rw[b06,h];split<;>rfl
theorem d94{A:List (List Nat)}{f i0:Nat}{R:List Int}{k:Nat}(hk:i0<=k)(h:P2 R (b9 (A.getD k []))=true):R9 A f i0 R (k+1)=R9 A f i0 R k++(R8 A f k (O5 R (A.getD k []))).map (· + 1):=by
 rw[b06,if_neg om,if_pos h]
theorem c19(A:List (List Nat))(f i0:Nat)(R:List Int)(k:Nat):∀d,(R9 A f i0 R k).length<=(R9 A f i0 R (k+d)).length
 | 0=>Nat.le_refl _
 | d+1=>by
  refine nle (c19 A f i0 R k d) ?_
  rw[<-Nat.add_assoc,b06]
  split
  . exact Nat.le_refl _
  . split
    . rw[List.length_append];omega
    . exact Nat.le_refl _
theorem c85{A:List (List Nat)}{k:Nat}(h:k<A.length):A.getD k []∈A:=by
 exact zz134
theorem cw9(A:List (List Nat))(h1:∀a∈A,1<=a.length):∀f i0 R,∀x∈R8 A f i0 R,x<=R.length:=by
 intro f;induction f with
 | zero=>intro i0 R x hx;simp[R8] at hx
 | succ f ih =>
  intro i0 R x hx;by_cases h:R.length=0
  . rw[bm4 h,List.mem_singleton] at hx;omega
  . rw[bi6 h] at hx;have key:∀k,k<=A.length->∀x∈R9 A f i0 R k,x<=R.length:=by
     intro k;induction k with
     | zero=>intro _ x hx;rw[b12 A f i0 R 0 om] at hx;cases hx
     | succ k ihk =>
      intro hk x hx;rw[b06] at hx;split at hx
      . exact ihk om x hx
      . split at hx
        . next hs =>
           rw[List.mem_append,List.mem_map] at hx;rcases hx with hx | ⟨y,hy,rfl⟩
           . exact ihk om x hx
           . have:=ih _ _ y hy;have h3:=bh3 _ _ hs;have h4:=h1 _ (c85 (by omega:k<A.length));omega
        . exact ihk om x hx
    exact key A.length (Nat.le_refl _) x hx
def tkS(C:List Int)(k:Int)(a:List Nat):List Int:=a.foldl (fun (C:List Int) (x:Nat)=>C.set x (nth C x - k)) C
def tkB(C:List Int)(k:Int)(a:List Nat):Bool:=(List.range a.length).all fun j=>decide (0<=nth (tkS C k (a.take (j+1))) (d8 a j))
theorem jf9(C:List Int)(k:Int)(a:List Nat)(x:Nat):tkS C k (a++[x])=(tkS C k a).set x (nth (tkS C k a) x - k):=by unfold tkS;rw[List.foldl_append];rfl
theorem bh4(C:List Int)(k:Int):∀a:List Nat,(tkS C k a).length=C.length:=by
 intro a;unfold tkS;induction a generalizing C with
 | nil=>rfl
 | cons x a ih=>rw[List.foldl_cons,ih,List.length_set]
theorem ch2{C:List Int}{x:Nat}{v:Int}(hx:x<C.length)(y:Nat):nth (C.set x v) y=if x=y then v else nth C y:=by
 unfold nth;rw[List.getD_eq_getElem?_getD,List.getD_eq_getElem?_getD,List.getElem?_set];by_cases e:x=y
 . subst e;simp[hx]
 . simp[e]
theorem bd0(C:List Int)(k:Int)(a:List Nat)(ha:∀x∈a,x<C.length)(y:Nat):nth (tkS C k a) y=nth C y - k*(a.count y:Nat):=by
 unfold tkS;induction a generalizing C with
 | nil=>simp
 | cons x a ih =>
  rw[List.foldl_cons,ih _ (fun z hz=>by rw[List.length_set];exact ha z (by simp[hz])),ch2 (ha x zm),List.count_cons];by_cases e:x=y
  . subst e;simp only[if_true,beq_self_eq_true];rw[Int.natCast_add,Int.mul_add];simp;omega
  . have:(x == y)=false:=(by simpa using e);rw[if_neg e,this];simp
theorem jf8(C:List Int)(a:List Nat)(ha:∀x∈a,x<C.length):tkS (tkS C 1 a) (-1) a=C:=by
 apply c80
 . rw[bh4,bh4]
 . intro i hi;rw[bd0 _ _ _ (fun x hx=>by rw[bh4];exact ha x hx),bd0 _ _ _ ha];omega
theorem d22(a:List Nat)(x j:Nat):(a.take j).count x<=a.count x:=List.Sublist.count_le x (List.take_sublist j a)
theorem jo7{C:List Int}{a:List Nat}(ha:∀x∈a,x<C.length):tkB C 1 a=true↔∀x∈a,(a.count x:Int)<=nth C x:=by
 unfold tkB;simp only[List.all_eq_true,List.mem_range,decide_eq_true_eq];constructor
 . intro H x hx;have key:∀j,j<=a.length->(a.take j).count x=0∨((a.take j).count x:Int)<=nth C x:=by
    intro j;induction j with
    | zero=>intro _;left;simp
    | succ j ih =>
     intro hj;have hh:=H j om;rw[bd0 _ _ _ (fun z hz=>ha z (List.mem_of_mem_take hz))] at hh;have e:a.take (j+1)=a.take j++[d8 a j]:=I8 a j om;by_cases q:d8 a j=x
     . right;rw[q] at hh;omega
     . rw[e,List.count_append,List.count_singleton];have:(d8 a j == x)=false:=(by simpa using q);rw[this];simpa using ih om
   rcases key a.length (Nat.le_refl _) with h | h
   . rw[List.take_length] at h;have:=List.count_pos_iff.2 hx;omega
   . rwa [List.take_length] at h
 . intro H j hj;rw[bd0 _ _ _ (fun z hz=>ha z (List.mem_of_mem_take hz))];have h1:=H _ (o6 hj);have h2:=d22 a (d8 a j) (j+1);omega
def bd4(n:Nat)(C:List Int)(R:List Int):Prop:=C.length=n∧∀x,x<n->nth C x=(R.count (x:Int):Nat)
theorem bd5(a:List Nat)(x:Nat):(b9 a).count (x:Int)=a.count x:=by
 unfold b9;induction a with
 | nil=>rfl
 | cons y a ih =>
  rw[List.map_cons,List.count_cons,List.count_cons,ih];congr 1;by_cases e:y=x
  . subst e;simp
  . have:¬(y:Int)=(x:Int):=(by omega);simp[e,this]
theorem jo2{R:List Int}{a:List Nat}:P2 R (b9 a)=true↔∀x∈a,a.count x<=R.count (x:Int):=by
 rw[dg7];constructor
 . intro H x _;rw[<-bd5];exact H _
 . intro H x;by_cases hx:x∈b9 a
   . obtain⟨y,hy,rfl⟩:=List.mem_map.1 hx;rw[bd5];exact H y hy
   . rw[List.count_eq_zero.2 hx];exact Nat.zero_le _
theorem js8{n:Nat}{C R:List Int}{a:List Nat}(h:bd4 n C R)(ha:∀x∈a,x<n):tkB C 1 a=P2 R (b9 a):=by
 obtain⟨h1,h2⟩:=h;rw[Bool.eq_iff_iff,jo7 (by rw[h1];exact ha),jo2];constructor
 . intro H x hx;have:=H x hx;rw[h2 x (ha x hx)] at this;omega
 . intro H x hx;have:=H x hx;rw[h2 x (ha x hx)];omega
theorem js7{n:Nat}{C R:List Int}{a:List Nat}(h:bd4 n C R)(ha:∀x∈a,x<n)(hs:P2 R (b9 a)=true):bd4 n (tkS C 1 a) (O5 R a):=by
 obtain⟨h1,h2⟩:=h;refine⟨by rw[bh4];exact h1,fun x hx=>?_⟩;rw[bd0 _ _ _ (by rw[h1];exact ha),h2 x hx];have:=b83 a R hs x;omega
def S8(T:List Nat):List Nat:=H6 T T.length
theorem de2(L:List Nat)(n:Nat):∀k,k<=L.length->(∀j,pkN L n k<=j->j<k->n<d8 L j)∧(0<pkN L n k->¬n<d8 L (pkN L n k - 1))
 | 0,_=>⟨fun j h1 h2=>om,fun h=>by simp[pkN] at h⟩
 | k+1,hk=>by
  obtain⟨h1,h2⟩:=de2 L n k om
  by_cases h:n<d8 L k
  . rw[bx3 h]
    refine⟨fun j p1 p2=>?_,h2⟩
    by_cases q:j=k
    . rw[q];exact h
    . exact h1 j p1 om
  . rw[bj5 h]
    exact⟨fun j p1 p2=>om,fun _=>by simpa using h⟩
theorem je0{L:List Nat}{n:Nat}(h:L.Pairwise (· < ·)):(M7 L n).Pairwise (· < ·):=by
 unfold M7;split
 . exact h
 . next hne =>
    obtain⟨h1,h2⟩:=de2 L n L.length (Nat.le_refl _);have hle:=bs2 L n L.length;generalize pkN L n L.length=k at h1 h2 hle hne;have hhi:∀y∈L.drop k,n<y:=by
     intro y hy;obtain⟨i,hi,rfl⟩:=List.getElem_of_mem hy;rw[List.length_drop] at hi;have:=h1 (k+i) om om;simpa[d8,List.getD,show k+i<L.length by omega] using this
    have hlo:∀y∈L.take k,y<n:=by
     intro y hy;obtain⟨i,hi,rfl⟩:=List.getElem_of_mem hy;rw[List.length_take] at hi;have q:=h2 om;have q1:d8 L (k - 1)<n:=by
      rcases Nat.lt_or_ge (d8 L (k - 1)) n with q2 | q2
      . exact q2
      . exact absurd ⟨om,om⟩ hne
     by_cases e:i=k - 1
     . subst e;simpa[d8,List.getD,show k - 1<L.length by omega] using q1
     . have q3:=List.pairwise_iff_getElem.1 h i (k - 1) om om om;simp only[List.getElem_take];have q4:d8 L (k - 1)=L[k - 1]'om:=(by simp[d8,List.getD,show k - 1<L.length by omega]);omega
    unfold b17;rw[List.pairwise_append];refine⟨h.sublist (List.take_sublist _ _),?_,?_⟩
    . rw[List.pairwise_cons];exact⟨hhi,h.sublist (List.drop_sublist _ _)⟩
    . intro a ha b hb;rw[List.mem_cons] at hb;rcases hb with rfl | hb
      . exact hlo a ha
      . have:=hlo a ha;have:=hhi b hb;omega
theorem bg1(T:List Nat):∀k,k<=T.length->(H6 T k).Pairwise (· < ·)∧∀x,x∈H6 T k↔x∈T.take k
 | 0,_=>by simp[H6]
 | k+1,hk=>by
  obtain⟨h1,h2⟩:=bg1 T k om
  refine⟨je0 h1,fun x=>?_⟩
  show x∈M7 (H6 T k) (d8 T k)↔_
  rw[cg7,I8 T k om,List.mem_append,List.mem_singleton,h2 x]
  exact Or.comm
theorem dc3(T:List Nat):(S8 T).Pairwise (· < ·):=(bg1 T _ (Nat.le_refl _)).1
theorem cg0(T:List Nat)(x:Nat):x∈S8 T↔x∈T:=by
 have:=(bg1 T _ (Nat.le_refl _)).2 x;rwa [List.take_length] at this
theorem dn1:∀{A B:List Int},(∀x,x∈A↔x∈B)->A.Pairwise (· < ·)->B.Pairwise (· < ·)->A=B
 | [],[],_,_,_=>rfl
 | [],b :: B,h,_,_=>by have:=(h b).2 zm;cases this
 | a :: A,[],h,_,_=>by have:=(h a).1 zm;cases this
 | a :: A,b :: B,h,hA,hB=>by
  rw[List.pairwise_cons] at hA hB
  have e:a=b:=by
   have h1:=(h a).1 zm;have h2:=(h b).2 zm;rw[List.mem_cons] at h1 h2;rcases h1 with h1 | h1
   . exact h1
   . rcases h2 with h2 | h2
     . exact h2.symm
     . have:=hA.1 b h2;have:=hB.1 a h1;omega
  subst e
  congr 1
  refine dn1 (fun x=>?_) hA.2 hB.2
  have:=h x
  rw[List.mem_cons,List.mem_cons] at this
  constructor
  . intro hx
    rcases this.1 (Or.inr hx) with e | e
    . subst e;have:=hA.1 x hx;omega
    . exact e
  . intro hx
    rcases this.2 (Or.inr hx) with e | e
    . subst e;have:=hB.1 x hx;omega
    . exact e
end Go.Zz
