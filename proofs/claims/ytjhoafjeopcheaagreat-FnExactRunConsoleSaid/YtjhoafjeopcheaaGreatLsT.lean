/- TilesOf of the program: its tiles are sorted by the library. -/
import Derived.Test.YtjhoafjeopcheaaGreatLs
import Derived.Test.YtjhoafjeopcheaaGreatGr10
set_option linter.all false
set_option maxHeartbeats 2000000
set_option maxRecDepth 8000
namespace Go.Zz
open Go.RowKit Go.Proofs Go.Sort
theorem j45{P w:World}{v:Value}{l:LI}(O:Own 3 P w v l)(E:Ext P w)(q:l.length<=1000000):Calls Tryz.prog 171 #[v] w fun e W=>e=.returned (.tuple #[])/\Own 3 P W v (l.mergeSort fun x y=>decide (x<=y))/\Ext P W:=by
 have p:=O;obtain⟨⟨o,r⟩,T⟩:=O;have L:(l.mergeSort fun x y=>decide (x<=y)).length=l.length:=qT _;rcases r with⟨rfl,z⟩|⟨g,cap,u,rfl,H,h,N,m,c,t⟩
 have i:l=[]:=oF (by simpa using z);subst i;refine(AnyM.slices_Sort_int_none Tryz.laysSort none 0 w).mono ?_;rintro e W⟨rfl,rfl⟩;exact⟨rfl,by simpa using p,E⟩;have U:g<w.heap.size:=(Array.getElem?_eq_some_iff.1 h).1;have Q:=holds_of_blockI (ss:=l) h (by simpa using t);refine(AnyM.slices_Sort_int Tryz.laysSort g 0 cap l w Q U om).mono ?_;rintro e W⟨rfl,n,s,rfl⟩;have R:=ownsRow_sortedI (n:=n) (os:=s) L H h (by simpa using N) m c;refine⟨rfl,⟨?_,by rw[L];exact T⟩,E.grown (grownBy_sortedI _) fun k V=>by cases V;exact H⟩;rw[L];exact R
theorem zz100{P:Prop}(h:P:=by exact br (.tuple #[.slice (some (aD G.heap.size 0)) 0 0,.bool false]) ⟨_,[],rfl,(l9 (TI:=3) (n:=0) om (F.trans z) [] rfl).ints,(cl8 J.o).symm,oQ (F.trans z) _⟩):P:=h
theorem j78(v:Value)(l:LI)(a:Int)(w:World)(h:c8 w v l):Calls Tryz.prog 188 #[.agg #[v],vi a] w fun e P=>∃V L,e=.returned (.tuple #[V,.bool (C8 l a)])/\c8 P V L/\L.length=tlN l a/\Ext w P:=by
 obtain⟨B,Z,F,C,H,E,U⟩:=m04 42 h;clear h;have X:=C B E;cases S:j0 l a
 . have J:=zh (P5 S);go_in;go_wp2_with fail;rw[<-Z.o];refine cm (q6 _ _ _ _ (H _ E) S) fun G z=>?_;go_wp2_with fail;rw[J.o];exact zz100
 obtain⟨n,rfl,p,g,Y⟩:=l7 S;by_cases T:n=0
 . subst T;have J:Hid (C8 l ((0:Nat):Int)=false):=zh (J7 l);go_in;go_wp2_with fail;rw[<-Z.o];refine cm (q6 _ _ _ _ (H _ E) S) fun G z=>?_;go_wp2_with fail;rw[show(0:Int)=((0:Nat):Int)from rfl,J.o];exact zz100
 have f:((n:Int) == 0)=false:=(by rw[beq_eq_false_iff_ne];omega);have R:=zh Y;have J:=zh (Q4 S om);have c:=fun W (D:Ext B W)=>dl1 v l n 200 W (H W D) R T p om om;have Q:(R2 l n 200).length<=200:=bt0 _ _ _ _ _ _ om;have N:Hid ((R2 l n 200).length=tlN l n):=zh (de6 J.o).symm;obtain⟨K,m⟩:=nq (R2 l n 200);rw[<-m]at c Q N;have s:((b9 K).mergeSort fun x y=>decide (x<=y)).length=K.length:=(by rw[qT,d9]);clear Y T m;go_in;go_wp2_with fail;rw[<-Z.o];refine cm (q6 _ _ _ _ (H _ E) S) fun G z=>?_;have d:=C _ z;go_wp2_with fail;refine(c _ z).mono ?_;rintro e r⟨A,rfl,O,I⟩;have q:=F.trans z;go_wp2_with fail;refine(j45 O I (by rw[d9];omega)).mono ?_;rintro e w3⟨rfl,b,M⟩;go_wp2_with fail;rw[J.o];exact br (.tuple #[A,.bool true]) ⟨_,_,rfl,b.ints,by rw[s,N.o],q.trans M⟩
end Go.Zz
