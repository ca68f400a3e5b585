/- The search for an isomorphism: the reference. -/
import Derived.Test.YtnnbhcalddkmmaaGreatGr6
import Derived.Test.YtnnbhcalddkmmaaGreatGr7
import Derived.Deep.RegionHeld3
import Derived.WalkSpells
import Derived.Test.YtnnbhcalddkmmaaGreatGr5
import Derived.Test.YtnnbhcalddkmmaaGreatGr2
namespace Go.Zz
open Go.RowKit Go.Proofs
set_option maxHeartbeats 2000000
set_option maxRecDepth 8000
theorem c8.take{w:World}{ao:Option Addr}{n c:Nat}{l:List Int}(h:c8 w (.slice ao n c) l){k:Nat}(hk:k≤l.length):c8 w (.slice ao k c) (l.take k):=by
 obtain⟨ao',c',hv,h1,h2,h3⟩:=h;simp only[Value.slice.injEq] at hv;obtain⟨rfl,rfl,rfl⟩:=hv;have hl:(l.take k).length=k:=by rw[List.length_take];omega
 refine⟨ao,c,by rw[hl],by rw[hl];omega,by rw[hl];omega,fun i hi=>?_⟩;rw[hl] at hi;obtain⟨a,ha,hc⟩:=h3 i (by omega);refine⟨a,ha,?_⟩;rw[hc];simp[nth,List.getD,hi]
theorem Blk.ints1{w:World}{g:Nat}{T:TypeId}{y:Int}(h:Blk w g T #[.int .i64 y]):c8 w (.slice (some ⟨g,0,none⟩) 1 1) [y]:=by
 refine⟨_,1,rfl,Nat.le_refl _,by simp,fun i hi=>⟨_,rfl,?_⟩⟩;match i,hi with
 | 0,_=>exact h.cell (i:=0) rfl
theorem c8.cap{w:World}{ao:Option Addr}{n c:Nat}{l:List Int}(h:c8 w (.slice ao n c) l):n≤c:=by
 obtain⟨ao',c',hv,h1,_⟩:=h;simp only[Value.slice.injEq] at hv;obtain⟨rfl,rfl,rfl⟩:=hv;exact h1
theorem bj8{P:Program}{t:TypeId}(ht:P.underlying t=some (.slice (P.elem t)))(hs:∀w,(sizeOf (P.elem t)).run P w=.ok 1 w)(ao:Option Addr)(n c:Nat)(k:Int)(k0:0≤k)(hk:k≤c)(W:World) :
 (Instr.slice t (.slice ao n c) none (some (.int .i64 k)) none).run P W=.ok (.slice ao k.toNat c) W:=by
 rw[run_slice_h (ht:=ht) (h0:=k0) (h2:=hk),hs];simp[Result.andThen,sliced];cases ao<;>simp[Addr.add]
theorem ci9{P:Program}{t:TypeId}(ht:P.underlying t=some (.slice (P.elem t)))(hs:∀w,(sizeOf (P.elem t)).run P w=.ok 1 w)(ao:Option Addr)(n c:Nat)(k:Int)(k0:0≤k)(hk:k≤c)(W:World) :
 (Instr.sliceAt t (.slice ao n c) none (some (.int .i64 k)) none).run P W=.ok (.slice ao k.toNat c) W:=by
 rw[run_sliceAt_slice (h:=ht),bj8 ht hs ao n c k k0 hk]
def NxP(w0:World)(M:List Nat)(Y:Nat)(s:Value)(wx:World):Prop :=
 ∃ao c,s=.slice ao (M.length+1) c∧Own 3 w0 wx (.slice ao (M.length+1) c) (d6 (M++[Y]))∧Ext w0 wx
theorem NxP.of{w0:World}{M:List Nat}{Y:Nat}{s:Value}{wx:World}(h:N0 3 w0 w0 wx s (d6 M++[(Y:Int)]))(hE:Ext w0 wx):NxP w0 M Y s wx:=by
 have h2:=h.own (Ext.refl w0);rw[show d6 M++[(Y:Int)]=d6 (M++[Y]) by simp[d6]] at h2;obtain⟨ao,c,rfl,-⟩:=h2.shape;rw[j8] at h2 ⊢;rw[show (M++[Y]).length=M.length+1 by simp] at h2 ⊢;exact⟨ao,c,rfl,h2,hE⟩
end Go.Zz
namespace Go.Zz
def b36(xs:List Int):Bool:=(List.range xs.length).all (fun j=>decide (j=0) || decide (nth xs (j - 1)≤nth xs j))
theorem bv9(xs:List Int):b36 xs=true↔∀j,0<j→j<xs.length→nth xs (j - 1)≤nth xs j:=by
 unfold b36;simp only[List.all_eq_true,List.mem_range,Bool.or_eq_true,decide_eq_true_eq];constructor
 · intro h j h0 hj;rcases h j hj with e | e
   · omega
   · exact e
 · intro h j hj;by_cases e:j=0
   · exact Or.inl e
   · exact Or.inr (h j (by omega) hj)
theorem cx9{xs:List Int}{j:Nat}(h0:0<j)(hj:j<xs.length)(h:nth xs j<nth xs (j - 1)):b36 xs=false:=by
 rw[←Bool.not_eq_true,bv9];intro hall;have:=hall j h0 hj;omega
def L2(l xs:List Int):Bool:=xs.all (K2 l)&&c9 l&&decide (xs.length≤12)&&b36 xs
theorem cx7{l xs:List Int}{k:Nat}(hk:k<xs.length)(h:K2 l (nth xs k)=false):L2 l xs=false:=by
 have:xs.all (K2 l)=false:=by
  rw[←Bool.not_eq_true,List.all_eq_true];intro hall;rw[hall _ (b92 hk)] at h;cases h
 unfold L2;rw[this];rfl
theorem di5{l xs:List Int}{k:Nat}(h0:0<k)(hk:k<xs.length)(h:nth xs k<nth xs (k - 1)):L2 l xs=false:=by
 unfold L2;rw[cx9 h0 hk h];simp
theorem cx6{l xs:List Int}(h:∀j,j<xs.length→K2 l (nth xs j)=true):L2 l xs=(c9 l&&decide (xs.length≤12)&&b36 xs):=by
 have:xs.all (K2 l)=true:=by
  rw[List.all_eq_true];intro x hx;obtain⟨k,hk,rfl⟩:=b90 hx;exact h k hk
 unfold L2;rw[this];simp
theorem cu7:∀(xs:List Int),(∀x∈xs,∃n:Nat,x=n)→∃X:List Nat,xs=d6 X
 | [],_=>⟨[],rfl⟩
 | x :: xs,h=>by
  obtain⟨n,hn⟩:=h x (by simp)
  obtain⟨X,hX⟩:=cu7 xs (fun y hy=>h y (by simp[hy]))
  exact⟨n :: X,by rw[hn,hX];simp[d6]⟩
theorem bc4{l xs:List Int}(h:L2 l xs=true):∃X:List Nat,xs=d6 X∧(∀x∈X,x<ord l)∧X.length≤12∧c9 l=true∧∀x∈X,x<24:=by
 simp only[L2,Bool.and_eq_true,List.all_eq_true,decide_eq_true_eq] at h;obtain⟨⟨⟨h1,h2⟩,h3⟩,_⟩:=h;obtain⟨X,rfl⟩:=cu7 xs (fun x hx=>by obtain⟨n,hn,_⟩:=bb0 (h1 x hx);exact⟨n,hn⟩)
 have hx:∀x∈X,x<ord l:=fun x hx=>by
  obtain⟨n,hn,hlt,_⟩:=bb0 (h1 (x:Int) (by simp[d6];exact⟨x,hx,rfl⟩))
  have:x=n:=by omega
  omega
 exact⟨X,rfl,hx,by simpa[j8] using h3,h2,fun x hx'=>Nat.lt_of_lt_of_le (hx x hx') (l8 h2).2⟩
end Go.Zz
namespace Go.Zz
def Y8(xs:List Int)(x:Int):Nat→Nat
 | 0=>0
 | k+1=>if nth xs k=x then Y8 xs x k+1 else Y8 xs x k
def bm5(xs:List Int)(x:Int):Nat:=Y8 xs x xs.length
theorem bm6(xs:List Int)(x:Int):∀k,Y8 xs x k≤k
 | 0=>Nat.le_refl _
 | k+1=>by
  have:=bm6 xs x k
  unfold Y8;split<;>omega
theorem ci1{xs:List Int}{x:Int}{k:Nat}(h:nth xs k=x):Y8 xs x (k+1)=Y8 xs x k+1:=by
 conv=>lhs;unfold Y8
 rw[if_pos h]
theorem cu5{xs:List Int}{x:Int}{k:Nat}(h:nth xs k≠x):Y8 xs x (k+1)=Y8 xs x k:=by
 conv=>lhs;unfold Y8
 rw[if_neg h]
theorem dn6(X:List Nat):(d6 X).map Int.toNat=X:=by
 unfold d6;rw[List.map_map];have:(Int.toNat ∘ fun n:Nat=>(n:Int))=id:=by funext n;rfl
 rw[this,List.map_id]
end Go.Zz
namespace Go.Zz
open Go.RowKit
def TB(b:Bool)(e:Ending):Prop:=∃v,e=.returned (.tuple #[v,.bool b])
theorem TB.mk(v:Value)(b:Bool):TB b (.returned (.tuple #[v,.bool b])):=⟨v,rfl⟩
end Go.Zz
namespace Go.Zz
open Go.RowKit Go.Proofs
set_option maxHeartbeats 2000000
set_option maxRecDepth 8000
def cm8(ao:Option Addr)(n c k:Nat):Value:=.slice (if c=k then ao else ao.map (·.add k)) (n - k) (c - k)
theorem b58{P:Program}{t:TypeId}(ht:P.underlying t=some (.slice (P.elem t)))(hs:∀w,(sizeOf (P.elem t)).run P w=.ok 1 w)(ao:Option Addr)(n c:Nat)(k:Int)(k0:0≤k)(hk:k≤n)(W:World) :
 (Instr.slice t (.slice ao n c) (some (.int .i64 k)) none none).run P W=.ok (cm8 ao n c k.toNat) W:=by
 rw[run_slice_l (ht:=ht) (h0:=k0) (h1:=hk),hs];simp[Result.andThen,sliced,cm8]
theorem b72{P:Program}{t:TypeId}(ht:P.underlying t=some (.slice (P.elem t)))(hs:∀w,(sizeOf (P.elem t)).run P w=.ok 1 w)(ao:Option Addr)(n c:Nat)(k:Int)(k0:0≤k)(hk:k≤n)(W:World) :
 (Instr.sliceAt t (.slice ao n c) (some (.int .i64 k)) none none).run P W=.ok (cm8 ao n c k.toNat) W:=by
 rw[run_sliceAt_slice (h:=ht),b58 ht hs ao n c k k0 hk]
theorem c8.drop{w:World}{ao:Option Addr}{n c:Nat}{l:List Int}(h:c8 w (.slice ao n c) l){k:Nat}(hk:k≤l.length):c8 w (cm8 ao n c k) (l.drop k):=by
 obtain⟨ao',c',hv,h1,h2,h3⟩:=h;simp only[Value.slice.injEq] at hv;obtain⟨rfl,rfl,rfl⟩:=hv;have hl:(l.drop k).length=l.length - k:=List.length_drop;refine⟨_,c - k,by rw[hl];rfl,by rw[hl];omega,by rw[hl];omega,fun i hi=>?_⟩;rw[hl] at hi;obtain⟨a,rfl,hc⟩:=h3 (k+i) (by omega);refine⟨a.add k,by rw[if_neg (by omega)];rfl,?_⟩;rw[show (a.add k).add i=a.add (k+i) by unfold Addr.add;by_cases h1:k=0<;>by_cases h2:i=0<;>simp[h1,h2,Nat.add_assoc],hc];simp[nth,List.getD,List.getElem?_drop]
def MiP(w0:World)(T:List Int)(s:Value)(wx:World):Prop:=∃ao c,s=.slice ao T.length c∧Own 3 w0 wx (.slice ao T.length c) T∧Ext w0 wx
theorem MiP.of{w0:World}{A B:List Int}{s:Value}{wx:World}(h:N0 3 w0 w0 wx s (A++B))(hE:Ext w0 wx):MiP w0 (A++B) s wx:=by
 have h2:=h.own (Ext.refl w0);obtain⟨ao,c,rfl,-⟩:=h2.shape;exact⟨ao,c,rfl,h2,hE⟩
end Go.Zz
namespace Go.Zz
def da1(r:Nat):Nat→Nat→Nat
 | 0,e=>e
 | n+1,e=>if r.testBit e then da1 r n (e+1) else e
def bg3(r:Nat):Nat:=da1 r 25 0
theorem dw0{r e:Nat}(h2:r.testBit e=false):∀n i,i≤e→e<i+n→(∀j,i≤j→j<e→r.testBit j=true)→da1 r n i=e:=by
 intro n;induction n with
 | zero=>intro i h3 h4;omega
 | succ n ih =>
  intro i h3 h4 h1;unfold da1;by_cases hi:i=e
  · subst hi;rw[h2];rfl
  · rw[h1 i (Nat.le_refl _) (by omega)];exact ih (i+1) (by omega) (by omega) fun j hj hj2=>h1 j (by omega) hj2
theorem cc5{r e:Nat}(h1:∀j,j<e→r.testBit j=true)(h2:r.testBit e=false)(h3:e≤24):bg3 r=e :=
 dw0 h2 25 0 (by omega) (by omega) fun j _ hj=>h1 j hj
theorem c39{l:List Int}{u e:Nat}(hu:u<2 ^ ord l)(h:∀j,j<e→u.testBit j=true)(he:ord l≤e):u=j4 l:=by
 apply Nat.eq_of_testBit_eq;intro i;rw[be2];by_cases hi:i<ord l
 · rw[h i (by omega)];simp[hi]
 · rw[P7 hu (by omega)];simp[hi]
def dF(l:List Int)(u x:Nat):Nat:=j9 l (bg3 u) (p4 l x)
theorem j50{l:List Int}(h:c9 l=true)(u x:Nat):dF l u x<ord l:=E9 l (m0 h) _ _
def tlS(l:List Int)(a:Nat):Nat→Nat→Nat→Nat→List Nat
 | 0,_,_,_=>[]
 | f+1,u,b,m=>if u=j4 l then [b] else
  (j1 a).foldl (fun (out:List Nat) (x:Nat)=>if out.length<m∧j2 l a (dF l u x) &&& u=0 then out++tlS l a f (u ||| j2 l a (dF l u x)) (b ||| 2 ^ dF l u x) (m - out.length) else out) []
def M4(l:List Int)(a f u b m k:Nat):List Nat:=((j1 a).take k).foldl (fun (out:List Nat) (x:Nat)=>if out.length<m∧j2 l a (dF l u x) &&& u=0 then out++tlS l a f (u ||| j2 l a (dF l u x)) (b ||| 2 ^ dF l u x) (m - out.length) else out) []
theorem bo2{l:List Int}{a f u b m:Nat}(h:u=j4 l):tlS l a (f+1) u b m=[b]:=by unfold tlS;rw[if_pos h]
theorem dy6{l:List Int}{a f u b m:Nat}(h:u≠j4 l):tlS l a (f+1) u b m=M4 l a f u b m (j1 a).length:=by
 unfold tlS M4;rw[if_neg h,List.take_length]
theorem b28{a k:Nat}(hk:k<(j1 a).length):(j1 a).take (k+1)=(j1 a).take k++[(j1 a)[k]]:=List.take_succ_eq_append_getElem hk
theorem dj7{l:List Int}{a f u b m k:Nat}(hk:k<(j1 a).length)(hm:(M4 l a f u b m k).length<m)(h:j2 l a (dF l u (j1 a)[k]) &&& u=0) :
 M4 l a f u b m (k+1)=M4 l a f u b m k++tlS l a f (u ||| j2 l a (dF l u (j1 a)[k])) (b ||| 2 ^ dF l u (j1 a)[k]) (m - (M4 l a f u b m k).length):=by
 unfold M4 at hm ⊢;rw[b28 hk,List.foldl_append];simp only[List.foldl_cons,List.foldl_nil];rw[if_pos ⟨hm,h⟩]
theorem dq9{l:List Int}{a f u b m k:Nat}(hk:k<(j1 a).length)(h:¬j2 l a (dF l u (j1 a)[k]) &&& u=0):M4 l a f u b m (k+1)=M4 l a f u b m k:=by
 unfold M4;rw[b28 hk,List.foldl_append];simp only[List.foldl_cons,List.foldl_nil];rw[if_neg fun e=>h e.2]
theorem db8{l:List Int}{a f u b m k:Nat}(hm:¬(M4 l a f u b m k).length<m):∀d,M4 l a f u b m (k+d)=M4 l a f u b m k:=by
 intro d;induction d with
 | zero=>rfl
 | succ d ih =>
  rw[←Nat.add_assoc];by_cases hk:k+d<(j1 a).length
  · rw[←ih] at hm ⊢;have e:M4 l a f u b m (k+d+1)=M4 l a f u b m (k+d):=by
     unfold M4 at hm ⊢;rw[b28 hk,List.foldl_append];simp only[List.foldl_cons,List.foldl_nil];rw[if_neg fun e=>hm e.1]
    rw[e]
  · rw[←ih];unfold M4;rw[List.take_of_length_le (by omega),List.take_of_length_le (by omega)]
theorem dq8{l:List Int}{a f u b m k:Nat}(h:u≠j4 l)(hk:k≤(j1 a).length)(hm:k=(j1 a).length∨¬(M4 l a f u b m k).length<m):tlS l a (f+1) u b m=M4 l a f u b m k:=by
 rw[dy6 h];rcases hm with rfl | hm
 · rfl
 · have:=db8 hm ((j1 a).length - k);rw[show k+((j1 a).length - k)=(j1 a).length by omega] at this;exact this
def tlI(l:List Int)(a m:Nat):Nat→Nat→Nat→List Nat→List Nat
 | 0,_,_,out=>out
 | f+1,u,b,out=>if u=j4 l then out++[b] else
  (j1 a).foldl (fun (out:List Nat) (x:Nat)=>if j2 l a (dF l u x) &&& u=0∧out.length<m then tlI l a m f (u ||| j2 l a (dF l u x)) (b ||| 2 ^ dF l u x) out else out) out
def V0(l:List Int)(a m f u b:Nat)(out:List Nat)(k:Nat):List Nat:=((j1 a).take k).foldl (fun (out:List Nat) (x:Nat)=>if j2 l a (dF l u x) &&& u=0∧out.length<m then tlI l a m f (u ||| j2 l a (dF l u x)) (b ||| 2 ^ dF l u x) out else out) out
theorem cz3{l:List Int}{a m f u b:Nat}{out:List Nat}(h:u=j4 l):tlI l a m (f+1) u b out=out++[b]:=by unfold tlI;rw[if_pos h]
theorem dy5{l:List Int}{a m f u b:Nat}{out:List Nat}(h:u≠j4 l):tlI l a m (f+1) u b out=V0 l a m f u b out (j1 a).length:=by
 unfold tlI V0;rw[if_neg h,List.take_length]
theorem dj5{l:List Int}{a m f u b k:Nat}{out:List Nat}(hk:k<(j1 a).length)(h:j2 l a (dF l u (j1 a)[k]) &&& u=0)(hm:(V0 l a m f u b out k).length<m) :
 V0 l a m f u b out (k+1)=tlI l a m f (u ||| j2 l a (dF l u (j1 a)[k])) (b ||| 2 ^ dF l u (j1 a)[k]) (V0 l a m f u b out k):=by
 unfold V0 at hm ⊢;rw[b28 hk,List.foldl_append];simp only[List.foldl_cons,List.foldl_nil];rw[if_pos ⟨h,hm⟩]
theorem cz4{l:List Int}{a m f u b k:Nat}{out:List Nat}(hk:k<(j1 a).length)(h:¬(j2 l a (dF l u (j1 a)[k]) &&& u=0∧(V0 l a m f u b out k).length<m)) :
 V0 l a m f u b out (k+1)=V0 l a m f u b out k:=by
 unfold V0 at h ⊢;rw[b28 hk,List.foldl_append];simp only[List.foldl_cons,List.foldl_nil];rw[if_neg h]
theorem j38(l:List Int)(a m:Nat):∀f u b out,out.length<m→tlI l a m f u b out=out++tlS l a f u b (m - out.length):=by
 intro f;induction f with
 | zero=>intro u b out _;simp[tlI,tlS]
 | succ f ih =>
  intro u b out hm;by_cases h:u=j4 l
  · rw[cz3 h,bo2 h]
  · unfold tlI tlS;rw[if_neg h,if_neg h]
    have key:∀(L:List Nat) (oS:List Nat),L.foldl (fun (out:List Nat) (x:Nat)=>if j2 l a (dF l u x) &&& u=0∧out.length<m then tlI l a m f (u ||| j2 l a (dF l u x)) (b ||| 2 ^ dF l u x) out else out) (out++oS) =
     out++L.foldl (fun (o:List Nat) (x:Nat)=>if o.length<m - out.length∧j2 l a (dF l u x) &&& u=0 then o++tlS l a f (u ||| j2 l a (dF l u x)) (b ||| 2 ^ dF l u x) (m - out.length - o.length) else o) oS:=by
     intro L;induction L with
     | nil=>intro oS;rfl
     | cons x L ih2 =>
      intro oS;simp only[List.foldl_cons];by_cases hs:j2 l a (dF l u x) &&& u=0
      · by_cases hl:oS.length<m - out.length
        · rw[if_pos ⟨hs,by rw[List.length_append];omega⟩,if_pos ⟨hl,hs⟩,ih _ _ _ (by rw[List.length_append];omega),List.append_assoc,List.length_append,show m - (out.length+oS.length)=m - out.length - oS.length by omega];exact ih2 _
        · rw[if_neg (by rw[List.length_append];intro e;omega),if_neg fun e=>hl e.1];exact ih2 _
      · rw[if_neg fun e=>hs e.1,if_neg fun e=>hs e.2];exact ih2 _
    have:=key (j1 a) [];simpa using this
theorem cf2{l:List Int}(hg:c9 l=true){a u:Nat}(ha:a≠0)(ha2:a<2 ^ ord l)(hu:u<2 ^ ord l)(d:Nat)(h:j2 l a d &&& u=0) :
 u ||| j2 l a d<2 ^ ord l∧cnt u<cnt (u ||| j2 l a d):=by
 have hs:=U3 (m0 hg) a d;have h1:=Nat.or_lt_two_pow hu hs;have hp:=E1 hg;refine⟨h1,(bk4 (Nat.lt_of_lt_of_le h1 hp) (fun i hi=>by rw[Nat.testBit_or,hi];rfl) fun e=>?_).2⟩;have hc:cnt (j2 l a d)≠0:=by
  rw[b16 hg ha2];have:=Q8 (Nat.pos_of_ne_zero ha) (Nat.lt_of_lt_of_le ha2 hp);omega
 obtain⟨i,hi⟩:=b24 (cp7 hc);have h3:u.testBit i=true:=by rw[e,Nat.testBit_or,hi];simp
 have h4:(j2 l a d &&& u).testBit i=true:=by rw[Nat.testBit_and,hi,h3];rfl
 rw[h,Nat.zero_testBit] at h4;cases h4
def K1(l:List Int)(a m:Nat):List Nat:=tlS l a (ord l+1) a 1 m
theorem b94(l:List Int)(a:Nat):∀f u b m,1≤m→(tlS l a f u b m).length≤m:=by
 intro f;induction f with
 | zero=>intro u b m _;simp[tlS]
 | succ f ih =>
  intro u b m hm;unfold tlS;split
  · simpa using hm
  · have key:∀(L:List Nat) (oS:List Nat),oS.length≤m→(L.foldl (fun (o:List Nat) (x:Nat)=>if o.length<m∧j2 l a (dF l u x) &&& u=0 then o++tlS l a f (u ||| j2 l a (dF l u x)) (b ||| 2 ^ dF l u x) (m - o.length) else o) oS).length≤m:=by
     intro L;induction L with
     | nil=>intro oS h;exact h
     | cons x L ih2 =>
      intro oS h;simp only[List.foldl_cons];refine ih2 _ ?_;split
      · next h3=>have:=ih (u ||| j2 l a (dF l u x)) (b ||| 2 ^ dF l u x) (m - oS.length) (by omega);rw[List.length_append];omega
      · exact h
    exact key _ _ (by simp)
def ftB(l:List Int)(a:Int):Bool:=q6 l a && !(K1 l a.toNat 1).isEmpty
def ftV(l:List Int)(a:Int):Int:=if ftB l a then (((K1 l a.toNat 1).headD 0:Nat):Int) else 0
theorem c66{l:List Int}{a:Int}(h:q6 l a=false):ftB l a=false∧ftV l a=0:=by
 have e:ftB l a=false:=by unfold ftB;rw[h];rfl
 exact⟨e,by unfold ftV;rw[e];rfl⟩
theorem cs7{l:List Int}{n:Nat}(h:K1 l n 1=[]):ftB l n=false∧ftV l n=0:=by
 have e:ftB l n=false:=by unfold ftB;rw[show ((n:Int)).toNat=n from rfl,h];simp
 exact⟨e,by unfold ftV;rw[e];rfl⟩
theorem cs8{l:List Int}{n:Nat}(h1:q6 l n=true){x:Nat}{L:List Nat}(h:K1 l n 1=x :: L):ftB l n=true∧ftV l n=(x:Int):=by
 have e:ftB l n=true:=by unfold ftB;rw[h1,show ((n:Int)).toNat=n from rfl,h];rfl
 exact⟨e,by unfold ftV;rw[e,show ((n:Int)).toNat=n from rfl,h];rfl⟩
end Go.Zz
namespace Go.Zz
open Go.RowKit Go.Proofs
set_option maxHeartbeats 1000000
set_option maxRecDepth 4000
theorem ci0(v:Value)(l:List Int)(x y:Nat)(w:World)(h:c8 w v l)(Hgr:Hid (c9 l=true))(hx:x<16777216)(hy:y<24) :
 Calls Tryz.prog 315 #[.agg #[v],.int .i64 x,.int .i64 y] w fun e w'=>e=.returned (.int .i64 (j9 l x (p4 l y):Nat))∧Ext w w':=by
 obtain⟨wb,Hwb,hE0,hb,hg,hE,Hsz⟩:=j60 28 h;clear h;have hbx:=fun U=>hb _ (b9 wb U);have hng:p4 l y<16777216:=by have:=Q9 l (m0 Hgr.out) y;have:=(l8 Hgr.out).2;omega
 go_enter Tryz.func315,Tryz.ntmps315;go_wp2_with fail;rw[←Hwb.out];(refine d0 (wb) (by kernel_rfl) (by kernel_rfl) hE ?_);(repeat (go_big_quiet_step (first | (go_at_call 307;exact Calls.lat (b80 _ _ _ _ (hg _ (b9 wb _)) (Hgr) ((by omega)))) | (go_at_call 224;exact Calls.lat (N2 _ _ _ _ _ (hg _ (b9 wb _)) (Hgr) (hx) (hng))))));(refine wpQuiet_nil ?_);(intro W hE');(replace hE:=l7 hE');(clear hE');go_wp2_with fail;go_ret;exact⟨rfl,hE0.trans hE⟩
theorem c08(v:Value)(l:List Int)(a:Nat)(Hgr:Hid (c9 l=true))(ha0:a≠0)(ha:a<2 ^ ord l):∀(f u b m:Nat) (w:World),c8 w v l→ord l<cnt u+f→u<2 ^ ord l→b<2 ^ 24→1≤m→m≤1000 →
 Calls Tryz.prog 167 #[.agg #[v],.int .i64 a,.int .i64 (j4 l:Nat),.int .i64 u,.int .i64 b,.int .i64 m] w fun e w'=>∃v',e=.returned v'∧Own 3 w w' v' (d6 (tlS l a f u b m))∧Ext w w':=by
 intro f;induction f with
 | zero=>intro u b m w h hf hu;have:=bh6 Hgr.out hu;omega
 | succ f ih =>
  intro u b m w h hf hu hb24 hm1 hm2;have hob:=l8 Hgr.out;have hp24:=E1 Hgr.out;have ha24:a<2 ^ 24:=Nat.lt_of_lt_of_le ha hp24;have hu24:u<2 ^ 24:=Nat.lt_of_lt_of_le hu hp24;obtain⟨wb,Hwb,hE0,hb,hg,hE,Hsz⟩:=j60 28 h;clear h;have Hih:=Lib.hid ih;clear ih;by_cases hfull:u=j4 l
  · have He:=Lib.hid (bo2 (l:=l) (a:=a) (f:=f) (b:=b) (m:=m) hfull);have hq:((u:Int) == (j4 l:Int))=true:=(by rw[hfull];simp);clear hfull;have hOl:Own 3 w (wb.alloc (.cells #[.int .i64 b] 3)) (.slice (some ⟨wb.heap.size,0,none⟩) 1 1) (d6 [b]):=q5 (TI:=3) (n:=1) (by omega) hE0 (d6 [b]) rfl;rw[←Hsz.out,Hwb.out] at hOl;have hEl:=hE0.alloc (.cells #[.int .i64 (b:Int)] 3);rw[Hwb.out] at hEl;go_enter Tryz.func167,Tryz.ntmps167;go_wp2_with fail;go_ret;exact⟨_,rfl,by rw[He.out];exact hOl,hEl⟩
  · have hq:((u:Int) == (j4 l:Int))=false:=(by rw[beq_eq_false_iff_ne];omega);have Hnf:=Lib.hid hfull;clear hfull;obtain⟨wc,hwc⟩:∃wc,wc=wb.alloc (.cells #[] 3):=⟨_,rfl⟩;have hBk:Blk wc wb.heap.size 3 #[]:=(by rw[hwc];exact Blk.new _ _ _);have hEbc:Ext wb wc:=(by rw[hwc];exact hE.alloc _);have Hwc:=Lib.hid hwc;clear hwc;go_enter Tryz.func167,Tryz.ntmps167;go_wp2_with fail;rw[←Hwb.out];go_loop [13] (fun xv=>∃e:Nat,e≤ord l∧xv=.int .i64 e∧∀j,j<e→u.testBit j=true) (fun x=>ord l - (intOf x).toNat);(case atStart=>exact⟨0,by omega,rfl,by omega⟩);case round =>
     obtain⟨e,he,rfl,hall⟩:=hrel;have hsh:=P3 (a:=u) (n:=e) (by omega);have hbt:=b15 (a:=u) (n:=e) (by omega) (by omega);cases hbe:u.testBit e
     · rw[hbe] at hbt;have helt:e<ord l:=Classical.byContradiction fun hn=>Hnf.out (c39 hu hall (by omega));have hlow:Hid (bg3 u=e):=Lib.hid (cc5 hall hbe (by omega));clear hall hbe;go_wp2_with fail;rw[←Hwc.out];clear hsh hbt;refine (L8 a ha24 _).mono ?_;rintro e1 w1 ⟨v1,rfl,hL,hE1⟩;obtain⟨aoL,cL,adrL,rfl,hadrL,hcellL⟩:=hL.ints.nats;have hixL:=j6 (c:=cL) elI szI hadrL;have hE01:Ext wb w1:=hEbc.trans hE1;have hb1:∀W,Ext w1 W→W.cell? ⟨w.heap.size,0,none⟩=some v:=fun W hW=>hb W (hE01.trans hW);have hg1:∀W,Ext w1 W→c8 W v l:=fun W hW=>hg W (hE01.trans hW);have hOE:N0 3 wb w1 w1 (.slice (some ⟨wb.heap.size,0,none⟩) 0 0) []:=N0.start w1 hBk hE1;clear hadrL hb hg hL;have hL24:∀y∈j1 a,y<24:=fun y hy=>G7 hy;have hlen:=C9 a;obtain⟨L,hLdef⟩:∃L,L=j1 a:=⟨_,rfl⟩;rw[←hLdef] at hcellL hixL hL24 hlen ⊢;have HL:=Lib.hid hLdef;clear hLdef;go_wp2_with fail;go_loopw [14,16] (fun ov i wr=>∃k:Nat,k≤L.length∧i=.int .i64 k∧N0 3 wb w1 wr ov (d6 (M4 l a f u b m k))∧Ext w1 wr) (fun _ i _=>L.length - (intOf i).toNat);(case atStart=>exact⟨0,by omega,rfl,hOE,Ext.refl _⟩);case round =>
        clear hOE hE;obtain⟨k,hk,rfl,hO,hEr⟩:=hrel;obtain⟨ab,cb,rfl,-⟩:=(hO.own hE01).shape;obtain⟨O,hOd⟩:∃O,O=M4 l a f u b m k:=⟨_,rfl⟩;rw[←hOd] at hO ⊢;rw[j8 O] at hO ⊢;by_cases hlt:k<L.length∧O.length<m
        · obtain⟨hlt,hlm⟩:=hlt;have hka:k<(j1 a).length:=(by rw[←HL.out];exact hlt);have hX24:=hL24 _ (o6 hlt);have Hel:Hid ((j1 a)[k]=d5 L k):=Lib.hid (by rw[HL.out];simp[d5,List.getD,hka]);obtain⟨X,hX⟩:∃X,X=d5 L k:=⟨_,rfl⟩;have hck:=fun U=>hcellL k _ hlt (hEr.trans (b9 wr U));rw[←hX] at hck hX24 Hel;have hbx:=fun U=>hb1 _ (hEr.trans (b9 wr U));have hng:p4 l X<16777216:=(by have:=Q9 l (m0 Hgr.out) X;omega);have hD24:j9 l e (p4 l X)<24:=Nat.lt_of_lt_of_le (E9 l (m0 Hgr.out) _ _) hob.2;have HD:Hid (dF l u X=j9 l e (p4 l X)):=Lib.hid (by unfold dF;rw[hlow.out]);obtain⟨D,hD⟩:∃D,D=j9 l e (p4 l X):=⟨_,rfl⟩;have hcA:=fun W (hW:Ext wr W)=>G5 v l e (p4 l X) W (hg1 _ (hEr.trans hW)) Hgr (by omega) hng;rw[←hD] at hcA hD24 HD;have hS24:=M5 Hgr.out a D;obtain⟨S,hS⟩:∃S,S=j2 l a D:=⟨_,rfl⟩;have hcS:=fun W (hW:Ext wr W)=>I8 v l a D W (hg1 _ (hEr.trans hW)) Hgr ha24 hD24;rw[←hS] at hcS hS24;have hand:Z6 (S:Int) (u:Int)=((S &&& u:Nat):Int):=W9 (by omega) (by omega);have hmO:(O.length:Int)<(m:Int):=(by omega);have hE:=Ext.refl wr;clear hX hD;cases hz:(((S &&& u:Nat):Int) == 0)
          · have Hn:Hid (M4 l a f u b m (k+1)=O):=Lib.hid (by
             rw[dq9 hka,hOd];rw[Hel.out,HD.out,←hS];rw[beq_eq_false_iff_ne] at hz;omega)
            clear hOd hS
            go_wp2_with fail
            (refine d0 (wr) (by kernel_rfl) (by kernel_rfl) hE ?_);(repeat (go_big_quiet_step (first | (go_at_call 202;exact Calls.lat (b32 _ _ _ _ ((hg1 _ (hEr.trans (b9 wr _)))) (Hgr) ((by omega)))) | (go_at_call 190;exact Calls.lat (hcA _ (b9 wr _))))));(refine wpQuiet_nil ?_);(intro W hE');(replace hE:=l7 hE');(clear hE')
            have hE11:=hEr.trans hE
            go_wp2_with (go_at_call 166;refine (hcS _ hE).mono ?_;rintro e' w' ⟨rfl,hE'⟩;replace hE:=hE.trans hE';clear hE')
            go_roundw
            case rel=>exact⟨k+1,by omega,by go_num,by rw[Hn.out];exact hO.ext hE,hEr.trans hE⟩
            case measure=>(simp[intOf];omega)
          · have hz':S &&& u=0:=(by rw[beq_iff_eq] at hz;omega);have hmore:=cf2 Hgr.out ha0 ha hu D (by rw[←hS];exact hz');rw[←hS] at hmore;have Hn:Hid (M4 l a f u b m (k+1)=O++tlS l a f (u ||| S) (b ||| 2 ^ D) (m - O.length)):=Lib.hid (by
             have:=dj7 (l:=l) (a:=a) (f:=f) (u:=u) (b:=b) (m:=m) hka (by rw[←hOd];exact hlm) (by rw[Hel.out,HD.out,←hS];exact hz');rw[this,←hOd,Hel.out,HD.out,←hS])
            have hbd:b ||| 2 ^ D<2 ^ 24:=Nat.or_lt_two_pow hb24 (Nat.pow_lt_pow_right (by omega) hD24)
            have hcR:=fun W (hI:c8 W v l)=>Hih.out (u ||| S) (b ||| 2 ^ D) (m - O.length) W hI (by omega) hmore.1 hbd (by omega) (by omega);have hTl:=b94 l a f (u ||| S) (b ||| 2 ^ D) (m - O.length) (by omega);obtain⟨Y,hY⟩:∃Y,Y=tlS l a f (u ||| S) (b ||| 2 ^ D) (m - O.length):=⟨_,rfl⟩;rw[←hY] at hcR hTl Hn;have hs0:ior (u:Int) (S:Int)=((u ||| S:Nat):Int):=Q0 (by omega) (by omega);have hs1:=p0 (n:=D) (by omega);have hs2:=F8 hb24 hD24;have hsm:((m - O.length:Nat):Int)=(m:Int) - (O.length:Int):=(by omega);rw[hsm] at hcR;have hwr:IntKind.i64.wrap ((m:Int) - (O.length:Int))=(m:Int) - (O.length:Int):=(by apply IntWalk.i64_in;omega);have hln:(d6 O).length+(d6 Y).length≤17592186044416:=(by rw[j8,j8];omega);have Hcat:Hid (d6 (O++Y)=d6 O++d6 Y):=Lib.hid (by simp[d6]);clear hOd hS hY hmore hbd hTl hsm hz';go_wp2_with fail;(refine d0 (wr) (by kernel_rfl) (by kernel_rfl) hE ?_);(repeat (go_big_quiet_step (first | (go_at_call 202;exact Calls.lat (b32 _ _ _ _ ((hg1 _ (hEr.trans (b9 wr _)))) (Hgr) ((by omega)))) | (go_at_call 190;exact Calls.lat (hcA _ (b9 wr _))))));(refine wpQuiet_nil ?_);(intro W hE');(replace hE:=l7 hE');(clear hE');have hE11:=hEr.trans hE;go_wp2_with (go_at_call 166;refine (hcS _ hE).mono ?_;rintro e' w2 ⟨rfl,hE'⟩;replace hE:=hE.trans hE';clear hE');have hE12:=hEr.trans hE;have hD0:=(Ext.refl w2).drew;(first | (go_region_held3 (fun W=>Ext w1 W∧W.cell? ⟨w.heap.size,0,none⟩=some v) (exact⟨xq,hb1 _ xq⟩) (first | (go_at_call 167;((with_reducible refine Calls.mono (hcR _ (hg1 _ xq)) ?_);rintro eH wH0 ⟨vH,rfl,hOn,hX0⟩;have hH0:=Ext.trans (a:=w1) xq hX0;have hR0:=Ext.trans (a:=wr) xq hX0)) | (refine M6 slI rfl _ _ rfl wb w1 _ _ _ _ (hO.ext xq) hOn.ints hH0 hln rfl rfl ?_;intro vA wA hOA hXA hTA))) | (fail "the region"));go_wp2_with fail;go_roundw;(case rel=>exact⟨k+1,by omega,by go_num,by rw[Hn.out,Hcat.out];exact hOA,hXA⟩);case measure=>(simp[intOf];omega)
        · have Hn:Hid (tlS l a (f+1) u b m=O):=Lib.hid (by
           rw[hOd];exact dq8 Hnf.out (by rw[←HL.out];exact hk) (by rw[←HL.out,←hOd];omega))
          have hE3:=hE0.trans (hE01.trans hEr)
          have hO':=(hO.own hE01).mono hE0
          clear hOd hO
          by_cases h1:k<L.length
          all_goals
           have h2:k<L.length→¬(O.length:Int)<(m:Int):=by omega
           try replace h2:=h2 h1
           clear hlt
           go_wp2_with fail
           go_ret
           exact⟨_,rfl,by rw[Hn.out];exact hO',hE3⟩
     · rw[hbe] at hbt;have helt:=G9 hu hbe;go_wp2_with fail;go_round;(case rel=>exact⟨e+1,by omega,by go_num,fun j hj=>by by_cases hje:j=e;(subst hje;exact hbe);exact hall j (by omega)⟩);case measure=>(simp[intOf];omega)
end Go.Zz
