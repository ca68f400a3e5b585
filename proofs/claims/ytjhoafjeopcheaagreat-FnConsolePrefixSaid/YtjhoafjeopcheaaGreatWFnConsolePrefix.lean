/- The output for the first lines of a script does not depend on later lines; every line that is not empty gives one line: the walk through the law. -/
import Derived.Test.YtjhoafjeopcheaaGreatGr39
set_option linter.all false
set_option maxHeartbeats 4000000
set_option maxRecDepth 8000
namespace Go.Zz
open Go.RowKit Go.Proofs
theorem jk1(x y:Ba)(w:World)(h:∃Z,y=x++Z)(H:y.size<=100000):Calls Tryz.prog 10 #[.string x,.string y] w fun e W=>e=.returned (.bool true)/\W=w:=by
 obtain⟨Z,z⟩:=h;have E:y.extract 0 x.size=x:=by rw[z];exact ByteArray.extract_append_eq_left rfl
 have S:x.size<=y.size:=by rw[z,oe];omega
 have s:(x.size:Int)<=y.size:=om;clear z;go_in;go_wp2_with fail;go_ret;exact⟨rfl,rfl⟩
theorem FnConsolePrefix_walk{v:Value}{l:LI}{w:World}(h:bo3 w v l):Calls Tryz.prog 4 #[v] w (RE w (.bool true)):=by
 go_in;go_wp2_with fail;refine(li3 _ _ _ h).mono ?_;rintro e P⟨b,rfl,rfl⟩;have F:=er P;cases b;rotate_left
 . go_wp2_with fail;go_ret;exact⟨rfl,F⟩
 go_wp2_with fail;refine(cd6 v l P (h.ext F)).mono ?_;rintro e w1⟨s,rfl,S,z⟩;have c1:=fun t W=>c25 t W;have T:=fun W=>bz4 s W;have he:=l45 s;have d:=zh fun (l f c:Nat) (h:Cnd s l f c)=>li8 (G:=lineV) h;have O:=zh fun (l f c:Nat) (h:Cnd s l f c)=>li7 lm1 h;have g:=zh fun (l f c:Nat) (h:Cnd s l f c)=>li6 (G:=lineV) h;have Z:=c1 s;obtain⟨X,hX⟩:=nq (P1 lineV s);rw[<-hX]at Z T he d O g;have E:=F.trans z;clear hX F z;go_wp2_with fail;refine cm (Z _) fun w2 I=>?_;replace E:=E.trans I;clear I;go_wp2_with fail;refine cm (T _) fun w3 I=>?_;replace E:=E.trans I;clear I T Z;have ca:=lq8 v l 0 om w3 (h.ext E);go_wp2_with fail;refine ca.mono ?_;rintro e w4⟨a,ha,rfl,rfl⟩;clear ca;obtain⟨k,V⟩:∃k:Nat,k=1+a%9:=⟨_,rfl⟩;have hl:1<=k/\k<=9:=om;have hy:IntKind.i64.wrap (1+(a:Int)%9)=(k:Int):=by rw[oD _ om];omega
 have hB:(a:Int).tmod 9=(a:Int)%9:=Int.tmod_eq_emod_of_nonneg om;clear V;go_wp2_with fail;go_loopw [5,6,7,9,10] (fun sc sl sf sr p wr=>∃(i n f r c:Nat),n<=i/\f<=n/\r<=i/\c<=s.size/\i<=s.size+1/\sc=vi c/\sl=vi n/\sf=vi f/\sr=vi r/\p=vi i/\wr=w4/\Hid ((i<=s.size->Cnt s k i n f r c)/\(s.size<i->Cnd s n f c))) (fun _ _ _ _ p _=>s.size+1-(RowKit.intOf p).toNat);exact⟨0,0,0,0,0,om,om,om,om,om,rfl,rfl,rfl,rfl,rfl,rfl,zh ⟨fun _=>Cnt.zero s hl.1,fun h=>om⟩⟩
 obtain⟨i,n,f,r,c,hn,hf,hr,hc,J,rfl,rfl,rfl,rfl,rfl,rfl,y⟩:=hrel;by_cases ho:i<=s.size
 . have hI:(i:Int)<=s.size:=om;have H:=zh (y.o.1 ho);clear y;obtain⟨m,M⟩:=nq (n+1);have wm:IntKind.i64.wrap ((n:Int)+1)=(m:Int):=(by rw[oD _ om];omega);have Hm:=zh M;clear M;by_cases U:i<s.size
   . have A:(i:Int)<s.size:=om;have hw:¬(i:Int)=s.size:=om;obtain⟨b,C⟩:=nq (bt s i);have K:(s[i]'U).toNat=b:=(by rw[b19,C]);have Hb:=zh C;clear C;by_cases L:b=10
     . have u:=zh (H.o.hit U (Hb.o.symm.trans L));subst L;have B:(((10:Nat):Int) != 10)=false:=rfl;clear H;by_cases hv:r<i<;>by_cases x:m=k
       all_goals
        have hg:=(show r<i↔(r:Int)<i by omega)
        have Y:=(show m=k↔(m:Int)=k by omega)
        simp only[hv,x,false_iff,true_iff]at hg Y
        go_wp2_with fail
        go_roundw
        case rel =>
         have M:=Hm.o;exact⟨i+1,n+1,if r<i then f+1 else f,i+1,if n+1=k then i+1 else c,om,by split<;>omega,om,by split<;>omega,om,by first|(rw[if_pos om]<;>go_num)|(rw[if_neg om]<;>go_num),by first|(rw[<-M];done)|rw[<-M,x],by first|(rw[if_pos om]<;>go_num)|(rw[if_neg om]<;>go_num),zg,zg,by trivial,zh ⟨fun _=>u.o,fun h=>om⟩⟩
        case measure=>exact zm1
     have u:=zh (H.o.skip (fun e=>L (Hb.o.trans e)));have B:((b:Int) != 10)=true:=(by rw[bne_iff_ne];omega);have ht:¬(b:Int)=10:=om;clear H L;go_wp2_with fail;go_roundw;exact⟨i+1,n,f,r,c,om,om,om,om,om,rfl,rfl,rfl,rfl,zg,by trivial,zh ⟨fun _=>u.o,fun h=>om⟩⟩;exact zm1
   obtain rfl:i=s.size:=om;have A:¬(s.size:Int)<s.size:=om;have u:=zh H.o.fin;clear H;by_cases R:r=s.size
   . have hu:(r:Int)=s.size:=om;have Ha:Hid (Cnd s n f c):=zh (by have:=u.o;rwa [if_pos R,if_pos R]at this);go_wp2_with fail;go_roundw;exact⟨s.size+1,n,f,r,c,om,om,om,om,om,rfl,rfl,rfl,rfl,zg,by trivial,zh ⟨fun h=>om,fun _=>Ha.o⟩⟩;(simp[RowKit.intOf])
   have hu:¬(r:Int)=s.size:=om;have hg:(r:Int)<s.size:=om;have Ha:Hid (Cnd s (n+1) (f+1) c):=zh (by have:=u.o;rwa [if_neg R,if_neg R]at this);by_cases x:m=k
   all_goals
    have Y:=(show m=k↔(m:Int)=k by omega)
    simp only[x,false_iff,true_iff]at Y
    go_wp2_with fail
    go_roundw
    case rel =>
     have M:=Hm.o;exact⟨s.size+1,n+1,f+1,s.size+1,c,om,om,om,om,om,rfl,by first|(rw[<-M];done)|rw[<-M,x],zg,zg,zg,by trivial,zh ⟨fun h=>om,fun _=>Ha.o⟩⟩
    case measure=>(simp[RowKit.intOf])
 have hI:¬(i:Int)<=s.size:=om;have H:=zh (y.o.2 om);clear y;by_cases N:20<n
 . have hq:(20:Int)<n:=om;have hC:X.toList.isEmpty=true:=bm5 (g.o n f c H.o (Or.inr N));go_wp2_with fail;go_ret;exact⟨rfl,E⟩
 have hq:¬(20:Int)<n:=om;have hD:¬(2000:Int)<s.size:=om;obtain⟨zz,hz⟩:=d.o n f c H.o om N;have Hz:=zh hz;have Hn:=zh (O.o n f c H.o om N);have hA:(c:Int)<=s.size:=om;clear hz H hI g d O;rename World=>wx;go_wp2_with fail;go_loopw [11,12] (fun sn q wr=>∃j:Nat,j<=X.size/\sn=vi (cn X j)/\q=vi j/\wr=wx) (fun _ q _=>X.size-(RowKit.intOf q).toNat);exact⟨0,oX _,rfl,rfl,rfl⟩;case round =>
  obtain⟨j,hj,rfl,rfl,rfl⟩:=hrel;by_cases U:j<X.size
  . have A:(j:Int)<X.size:=om;have hp:=lf5 X j;obtain⟨b,C⟩:=nq (bt X j);have K:(X[j]'U).toNat=b:=(by rw[b19,C]);have Q:Hid (cn X (j+1)=if b=10 then cn X j+1 else cn X j):=zh (by rw[C];rfl);obtain⟨NN,hN⟩:=nq (cn X j);rw[<-hN]at hp Q|-;clear C hN;by_cases L:b=10
    . have D:=zh (Q.o.trans (if_pos L));subst L;have B:(((10:Nat):Int) == 10)=true:=rfl;go_wp2_with fail;go_roundw;exact⟨j+1,U,by rw[D.o];go_num,zg,by trivial⟩;exact zm1
    . have D:=zh (Q.o.trans (if_neg L));have B:((b:Int) == 10)=false:=(by rw[beq_eq_false_iff_ne];omega);have ht:¬(b:Int)=10:=om;go_wp2_with fail;go_roundw;exact⟨j+1,U,by rw[D.o],zg,by trivial⟩;exact zm1
  . obtain rfl:j=X.size:=om;have A:¬(X.size:Int)<X.size:=om;rw[Hn.o];go_wp2_with fail;refine cm (c1 _ _) fun w5 hh=>?_;go_wp2_with fail;refine(jk1 _ X _ ⟨zz,Hz.o⟩ he).mono ?_;rintro e w6⟨rfl,rfl⟩;go_wp2_with fail;go_ret;exact⟨rfl,E.trans hh⟩
end Go.Zz
