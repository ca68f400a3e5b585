/- Makers of claims, in one shape for all of them; what a checked claim says, as the law asks. -/
import Derived.Test.YtdlbbpeahicakaaGreatGr17
import Derived.Test.YtdlbbpeahicakaaGreatGr5
import Derived.Test.YtdlbbpeahicakaaGreatGr6
import Derived.Test.YtdlbbpeahicakaaGreatGr11
import Derived.Test.YtdlbbpeahicakaaGreatGr12
import Derived.Test.YtdlbbpeahicakaaGreatGr18
import Derived.Test.YtdlbbpeahicakaaGreatGr14
import Derived.Test.YtdlbbpeahicakaaGreatGr19
import Derived.Test.YtdlbbpeahicakaaGreatGr20
import Derived.Test.YtdlbbpeahicakaaGreatGr21
import Derived.Test.YtdlbbpeahicakaaGreatGr7
import Derived.Test.YtdlbbpeahicakaaGreatGr13
import Derived.Laws.OwnMore
set_option linter.unusedSimpArgs false
set_option linter.unusedVariables false
set_option linter.unnecessarySimpa false
namespace Go.Zz
open Go.RowKit Go.Proofs
def MkR(k a b s p n:Int)(R:Bool)(G O T Q:List Int)(w:World)(e:Ending)(w':World):Prop :=
 ∃a1 c1 a2 c2 a3 c3 a4 c4,e=.returned (.tuple #[.agg #[.int .i64 k,.slice a1 G.length c1,.slice a2 O.length c2,.int .i64 a,.int .i64 b,.int .i64 s,.int .i64 p,.slice a3 T.length c3,.slice a4 Q.length c4,.int .i64 n],.bool R])∧Ints4 w' (.slice a1 G.length c1) (.slice a2 O.length c2) (.slice a3 T.length c3) (.slice a4 Q.length c4) G O T Q∧Ext w w'
def Mkd(fi fs:FuncId)(args:Array Value)(P:World→Prop)(k a b s p n:Int)(R:Bool)(G O T Q:List Int):Prop :=
 (∀W,P W→Calls Tryz.prog fi args W (MkR k a b s p n R G O T Q W))∧(∀W,P W→Calls Tryz.prog fs args W (MkR k a b s p n R G O T Q W))∧(R=true→ccF k G O a b s p T Q n=true)
theorem mkR_of{k a b s p n:Int}{R:Bool}{G O T Q:List Int}{w:World}{e:Ending}{w':World}(h:∃v1 v2 v3 v4,e=.returned (.tuple #[CV k v1 v2 a b s p v3 v4 n,.bool R])∧Own4 w w' v1 v2 v3 v4 G O T Q∧Ext w w'):MkR k a b s p n R G O T Q w e w':=by
 obtain⟨v1,v2,v3,v4,rfl,hO,hE⟩:=h
 have hI:=hO.ints
 obtain⟨a1,c1,rfl,-⟩:=hO.h1.shape
 obtain⟨a2,c2,rfl,-⟩:=hO.h2.shape
 obtain⟨a3,c3,rfl,-⟩:=hO.h3.shape
 obtain⟨a4,c4,rfl,-⟩:=hO.h4.shape
 exact⟨a1,c1,a2,c2,a3,c3,a4,c4,rfl,hI,hE⟩
theorem pk_sum(v:Value)(l:List Int)(x y:Int):∃k a b s p n R G O T Q,Mkd 14 15 #[.agg #[v],.int .i64 x,.int .i64 y] (fun W=>Ints W v l) k a b s p n R G O T Q :=
 ⟨_,_,_,_,_,_,_,_,_,_,_,fun W h=>(ClaimOfSum_any v l x y W h).mono fun _ _=>mkR_of,fun W h=>(sClaimOfSum_any v l x y W h).mono fun _ _=>mkR_of,fun h=>mk1 h _ _ _ _⟩
theorem pk_seq(v u:Value)(l q:List Int):∃k a b s p n R G O T Q,Mkd 17 18 #[.agg #[v],u] (fun W=>Ints W v l∧Ints W u q) k a b s p n R G O T Q∧(∀W,Ints W v l∧Ints W u q→Calls Tryz.prog 21 #[.agg #[v],u] W fun e w'=>e=.returned (.bool R)∧Ext W w') :=
 ⟨_,_,_,_,_,_,_,_,_,_,_,⟨fun W h=>(ClaimOfSequence_any v u l q W h.1 h.2).mono fun _ _=>mkR_of,fun W h=>(sClaimOfSequence_any v u l q W h.1 h.2).mono fun _ _=>mkR_of,fun h=>mk2 h _ _ _ _ _ _⟩,fun W h=>sIsSequence_any v u l q W h.1 h.2⟩
theorem pk_tile(v:Value)(l:List Int)(x:Int):∃k a b s p n R G O T Q,Mkd 23 24 #[.agg #[v],.int .i64 x] (fun W=>Ints W v l) k a b s p n R G O T Q :=
 ⟨_,_,_,_,_,_,_,_,_,_,_,fun W h=>(ClaimOfTile_any v l x W h).mono fun _ _=>mkR_of,fun W h=>(sClaimOfTile_any v l x W h).mono fun _ _=>mkR_of,fun h=>mk4 h _ _ _ _ _ _⟩
theorem pk_alike(v u:Value)(l q:List Int)(x y:Int):∃k a b s p n R G O T Q,Mkd 26 27 #[.agg #[v],.agg #[u],.int .i64 x,.int .i64 y] (fun W=>Ints W v l∧Ints W u q) k a b s p n R G O T Q :=
 ⟨_,_,_,_,_,_,_,_,_,_,_,fun W h=>(ClaimOfAlike_any v u l q x y W h.1 h.2).mono fun _ _=>mkR_of,fun W h=>(sClaimOfAlike_any v u l q x y W h.1 h.2).mono fun _ _=>mkR_of,fun h=>mk5 h _ _ _⟩
theorem pk_colors(x:Int):∃k a b s p n R G O T Q,Mkd 29 30 #[.int .i64 x] (fun W=>True) k a b s p n R G O T Q :=
 ⟨_,_,_,_,_,_,_,_,_,_,_,fun W h=>(ClaimOfColors_any x W).mono fun _ _=>mkR_of,fun W h=>(sClaimOfColors_any x W).mono fun _ _=>mkR_of,fun h=>mk6 h _ _ _ _ _ _ _⟩
theorem pk_coset(v:Value)(l:List Int)(x:Int):∃k a b s p n R G O T Q,Mkd 32 33 #[.agg #[v],.int .i64 x] (fun W=>Ints W v l) k a b s p n R G O T Q :=
 ⟨_,_,_,_,_,_,_,_,_,_,_,fun W h=>(ClaimOfCoset_any v l x W h).mono fun _ _=>mkR_of,fun W h=>(sClaimOfCoset_any v l x W h).mono fun _ _=>mkR_of,fun h=>mk7 h _ _ _ _ _⟩
theorem eq_same(k a b s p n:Int)(G O T Q:List Int)(v1 v2 v3 v4 u1 u2 u3 u4:Value)(W:World)(h:Ints4 W v1 v2 v3 v4 G O T Q)(h':Ints4 W u1 u2 u3 u4 G O T Q) :
 Calls Tryz.prog 19 #[.agg #[.int .i64 k,v1,v2,.int .i64 a,.int .i64 b,.int .i64 s,.int .i64 p,v3,v4,.int .i64 n],.agg #[.int .i64 k,u1,u2,.int .i64 a,.int .i64 b,.int .i64 s,.int .i64 p,u3,u4,.int .i64 n]] W fun e w'=>e=.returned (.bool true)∧Ext W w':=by
 have:=sEqualClaims_any ⟨k,G,O,a,b,s,p,T,Q,n⟩ ⟨k,G,O,a,b,s,p,T,Q,n⟩ v1 v2 v3 v4 u1 u2 u3 u4 W ⟨h.g,h.o,h.t,h.q⟩ ⟨h'.g,h'.o,h'.t,h'.q⟩
 rw[eqC_self] at this
 exact this
theorem ck_yes{k a b s p n:Int}{G O T Q:List Int}(hc:ccF k G O a b s p T Q n=true)(v1 v2 v3 v4:Value)(W:World)(h:Ints4 W v1 v2 v3 v4 G O T Q) :
 Calls Tryz.prog 20 #[.agg #[.int .i64 k,v1,v2,.int .i64 a,.int .i64 b,.int .i64 s,.int .i64 p,v3,v4,.int .i64 n]] W fun e w'=>e=.returned (.bool true)∧Ext W w':=by
 have:=CheckClaim_any k a b s p n G O T Q v1 v2 v3 v4 W h
 rw[hc] at this
 exact this
theorem eq_pair(k a b s p n:Int)(G O T Q:List Int)(k' a' b' s' p' n':Int)(G' O' T' Q':List Int):∃R:Bool,(∀v1 v2 v3 v4 u1 u2 u3 u4 W,Ints4 W v1 v2 v3 v4 G O T Q→Ints4 W u1 u2 u3 u4 G' O' T' Q' →
 Calls Tryz.prog 47 #[.agg #[.int .i64 k,v1,v2,.int .i64 a,.int .i64 b,.int .i64 s,.int .i64 p,v3,v4,.int .i64 n],.agg #[.int .i64 k',u1,u2,.int .i64 a',.int .i64 b',.int .i64 s',.int .i64 p',u3,u4,.int .i64 n']] W fun e w'=>e=.returned (.bool R)∧Ext W w') ∧
 (∀v1 v2 v3 v4 u1 u2 u3 u4 W,Ints4 W v1 v2 v3 v4 G O T Q→Ints4 W u1 u2 u3 u4 G' O' T' Q' →
 Calls Tryz.prog 19 #[.agg #[.int .i64 k,v1,v2,.int .i64 a,.int .i64 b,.int .i64 s,.int .i64 p,v3,v4,.int .i64 n],.agg #[.int .i64 k',u1,u2,.int .i64 a',.int .i64 b',.int .i64 s',.int .i64 p',u3,u4,.int .i64 n']] W fun e w'=>e=.returned (.bool R)∧Ext W w') :=
 ⟨eqC ⟨k,G,O,a,b,s,p,T,Q,n⟩ ⟨k',G',O',a',b',s',p',T',Q',n'⟩,fun v1 v2 v3 v4 u1 u2 u3 u4 W h h'=>EqualClaims_any ⟨k,G,O,a,b,s,p,T,Q,n⟩ ⟨k',G',O',a',b',s',p',T',Q',n'⟩ v1 v2 v3 v4 u1 u2 u3 u4 W ⟨h.g,h.o,h.t,h.q⟩ ⟨h'.g,h'.o,h'.t,h'.q⟩,
  fun v1 v2 v3 v4 u1 u2 u3 u4 W h h'=>sEqualClaims_any ⟨k,G,O,a,b,s,p,T,Q,n⟩ ⟨k',G',O',a',b',s',p',T',Q',n'⟩ v1 v2 v3 v4 u1 u2 u3 u4 W ⟨h.g,h.o,h.t,h.q⟩ ⟨h'.g,h'.o,h'.t,h'.q⟩⟩
def AcF(k:Int)(g o:List Int)(a b s p:Int)(t:List Int):Prop :=
 (k=1∧knI g a b≤csF g s)∨(k=2∧zfB g t=false)∨(k=3∧(t.length:Int)<ordF g)∨(k=4∧tilF g a b=true)∨(k=5∧csF g (ssF g a a)=csF o (ssF o b b))∨(k=6∧stB t=false)∨(k=7∧2*csF g p<3*csF g a)
theorem ac_all{k:Int}{g o:List Int}{a b s p:Int}{t q:List Int}{n:Int}(h:ccF k g o a b s p t q n=true):AcF k g o a b s p t:=by
 unfold ccF at h
 unfold AcF
 by_cases h1:k=1
 · rw[if_pos h1] at h
   obtain⟨m,x,y,rfl,rfl,rfl,f1,f2,f3⟩:=ac1 h
   exact Or.inl ⟨h1,by rw[knI_yes f1,csF_yes f2];exact f3⟩
 rw[if_neg h1] at h
 by_cases h2:k=2
 · rw[if_pos h2] at h
   exact Or.inr (Or.inl ⟨h2,ac2 h⟩)
 rw[if_neg h2] at h
 by_cases h3:k=3
 · rw[if_pos h3] at h
   obtain⟨f1,f2⟩:=ac3 h
   exact Or.inr (Or.inr (Or.inl ⟨h3,by rw[ordF_t f1];omega⟩))
 rw[if_neg h3] at h
 by_cases h4:k=4
 · rw[if_pos h4] at h
   exact Or.inr (Or.inr (Or.inr (Or.inl ⟨h4,h⟩)))
 rw[if_neg h4] at h
 by_cases h5:k=5
 · rw[if_pos h5] at h
   obtain⟨m,x,rfl,rfl,f1,f2,f3⟩:=ac5 h
   refine Or.inr (Or.inr (Or.inr (Or.inr (Or.inl ⟨h5,?_⟩))))
   have hg:=(isSetB_nat f1).elim fun _ h=>h.2.2.2
   have ho:=(isSetB_nat f2).elim fun _ h=>h.2.2.2
   rw[ssF_yes (by rw[f1];rfl),ssF_yes (by rw[f2];rfl),csF_yes (isSetB_of hg (sumF_lt (isGrp_ords hg) _ _)),csF_yes (isSetB_of ho (sumF_lt (isGrp_ords ho) _ _)),f3]
 rw[if_neg h5] at h
 by_cases h6:k=6
 · rw[if_pos h6] at h
   refine Or.inr (Or.inr (Or.inr (Or.inr (Or.inr (Or.inl ⟨h6,?_⟩)))))
   unfold iscB at h
   simpa using (Bool.and_eq_true_iff.1 h).2
 rw[if_neg h6] at h
 by_cases h7:k=7
 · rw[if_pos h7] at h
   obtain⟨m,x,rfl,rfl,f1,f2,f3⟩:=ac7 h
   exact Or.inr (Or.inr (Or.inr (Or.inr (Or.inr (Or.inr ⟨h7,by rw[csF_yes f1,csF_yes f2];omega⟩)))))
 rw[if_neg h7] at h
 cases h
end Go.Zz
namespace Go.Zz
open Go.RowKit Go.Proofs
set_option maxHeartbeats 1000000
theorem elV:Tryz.prog.underlying 107=some (.slice (Tryz.prog.elem 107)):=by kernel_rfl
theorem szV:∀w,(Go.sizeOf (Tryz.prog.elem 107)).run Tryz.prog w=.ok 1 w:=fun w=>by kernel_rfl
def OwnV(w0 w:World)(v:Value)(n:Nat):Prop :=
 ∃L:List Value,L.length=n∧(∀u∈L,u.oneCell'=true)∧w.ownsRow w0.heap.size 22 1 v n L∧n≤1000000
theorem OwnV.blk{w0 w:World}{v:Value}{n:Nat}(h:OwnV w0 w v n):∀k,v.ownBlock=some k→w0.heap.size≤k∧k<w.heap.size:=by
 obtain⟨L,-,-,h,-⟩:=h;exact h.lt
theorem OwnV.ext{w0 w w':World}{v:Value}{n:Nat}(h:OwnV w0 w v n)(hE:Ext w w'):OwnV w0 w' v n:=by
 obtain⟨L,h1,h2,h3,h4⟩:=h
 refine⟨L,h1,h2,h3.kept (row:=none) ⟨hE.os,hE.tape,hE.output,hE.size,fun k hk _=>hE.block k hk⟩ ?_,h4⟩
 cases hv:v.ownBlock<;>simp
theorem OwnV.mono{w0 w1 w:World}{v:Value}{n:Nat}(h:OwnV w1 w v n)(hE:Ext w0 w1):OwnV w0 w v n:=by
 obtain⟨L,h1,h2,h3,h4⟩:=h
 exact⟨L,h1,h2,ownsRow_mono h3 hE.size,h4⟩
theorem OwnV.shape{w0 w:World}{v:Value}{n:Nat}(h:OwnV w0 w v n) :
 ∃(ao:Option Addr) (c:Nat),v=.slice ao n c∧n≤c∧(∀i,i<n→∃g u,ao=some ⟨g,0,none⟩∧w.cell? ⟨g,i,none⟩=some u):=by
 obtain⟨L,hL,-,h1,-⟩:=h
 have h2:=h1.2
 rcases h2 with ⟨rfl,hl⟩ | ⟨g,cap,cur,rfl,hg,hh,hc,r⟩
 · exact⟨none,0,by rw[hl],by omega,by omega⟩
 · refine⟨some ⟨g,0,none⟩,cap,rfl,hc,fun i hi=>⟨g,L[i]'(by omega),rfl,?_⟩⟩
   rw[World.ownsRow.cellAt h1 i (by omega)]
   simp[show i<L.length by omega]
section
variable {ops:Array Oper} {rest:List Oper} {o:Oper} {a:Act} {Q:Exit→Act→World→Prop}
end
end Go.Zz
namespace Go.Zz
open Go.RowKit Go.Proofs
set_option maxHeartbeats 2000000
set_option maxRecDepth 8000
def Bel(n x:Int):Prop:=(n≤0→x=0)∧(0<n→0≤x∧x<n)
theorem l1Below_any(w0 w:World)(p:Nat)(n:Int)(hn:n≤256)(h:Cur w0 w p) :
 Calls Tryz.prog 109 #[.pointer (some ⟨p,0,none⟩),.int .i64 n] w fun e w'=>∃x,e=.returned (.int .i64 x)∧Bel n x∧Cur w0 w' p∧Drw p w w':=by
 by_cases h0:n≤0
 · have Hb:Hid (Bel n 0):=Lib.hid ⟨fun _=>rfl,fun e=>by omega⟩
   go_enter Tryz.func109,Tryz.ntmps109
   go_wp2_with fail
   go_ret
   exact⟨0,rfl,Hb.out,h,Drw.refl p w⟩
 · have hp:0<n:=by omega
   go_enter Tryz.func109,Tryz.ntmps109
   go_wp2_with fail
   refine (l1Byte_any w0 w p h).mono ?_
   rintro e w1 ⟨x,rfl,hx0,hx1,hC,hF⟩
   have hm1:0≤x % n:=Int.emod_nonneg _ (by omega)
   have hm2:x % n<n:=Int.emod_lt_of_pos _ hp
   have Hb:Hid (Bel n (x % n)):=Lib.hid ⟨fun e=>by omega,fun _=>⟨hm1,hm2⟩⟩
   have hn0:¬n=0:=by omega
   have htm:x.tmod n=x % n:=Int.tmod_eq_emod_of_nonneg hx0
   go_wp2_with fail
   go_ret
   exact⟨_,rfl,Hb.out,hC,hF⟩
theorem l1Once_any(w0 w:World)(p:Nat)(n:Int)(hn:n≤256)(h:Cur w0 w p) :
 Calls Tryz.prog 128 #[.pointer (some ⟨p,0,none⟩),.int .i64 n] w fun e w'=>∃b,e=.returned (.bool b)∧Cur w0 w' p∧Drw p w w':=by
 go_enter Tryz.func128,Tryz.ntmps128
 go_wp2_with fail
 refine (l1Below_any w0 w p n hn h).mono ?_
 rintro e w1 ⟨x,rfl,-,hC,hF⟩
 go_wp2_with fail
 go_ret
 exact⟨_,rfl,hC,hF⟩
theorem l1PickInt_any(w0 w wA:World)(p:Nat)(u:Value)(L:List Int)(h:Cur w0 w p)(hO:Own 3 wA w u L)(hp:p<wA.heap.size)(h1:1≤L.length)(h2:L.length≤256) :
 Calls Tryz.prog 186 #[.pointer (some ⟨p,0,none⟩),u] w fun e w'=>∃k,k<L.length∧e=.returned (.int .i64 (nth L k))∧Cur w0 w' p∧Drw p w w':=by
 obtain⟨ao,c,rfl,-⟩:=hO.shape
 go_enter Tryz.func186,Tryz.ntmps186
 go_wp2_with fail
 refine (l1Below_any w0 w p L.length (by omega) h).mono ?_
 rintro e w1 ⟨x,rfl,hb,hC,hF⟩
 obtain⟨hx0,hx1⟩:=hb.2 (by omega)
 obtain⟨k,rfl⟩:=Int.eq_ofNat_of_zero_le hx0
 have hk:k<L.length:=by omega
 obtain⟨ao',c',adr,hv,-,hadr,hcell⟩:=(hF.own hO hp).ints.op
 simp only[Value.slice.injEq] at hv
 obtain⟨rfl,-,rfl⟩:=hv
 have hix:=ints_index (c:=c) elI szI hadr k
 have hck:=hcell k w1 hk (Ext.refl _)
 clear hadr hcell
 go_wp2_with fail
 go_ret
 exact⟨k,hk,rfl,hC,hF⟩
def litW(T:TypeId)(w:World)(Ls:List (List Int)):World:=Ls.foldl (fun w L=>w.alloc (.cells (L.map (Value.int .i64)).toArray T)) w
theorem litW_cons(T:TypeId)(w:World)(L:List Int)(Ls:List (List Int)):litW T w (L :: Ls)=litW T (w.alloc (.cells (L.map (Value.int .i64)).toArray T)) Ls:=rfl
theorem litW_ext(T:TypeId):∀(Ls:List (List Int)) (w:World),Ext w (litW T w Ls)
 | [],w=>Ext.refl w
 | L :: Ls,w=>Ext.trans ((Ext.refl w).alloc _) (litW_ext T Ls _)
theorem litW_size(T:TypeId):∀(Ls:List (List Int)) (w:World),(litW T w Ls).heap.size=w.heap.size+Ls.length
 | [],w=>rfl
 | L :: Ls,w=>by rw[litW_cons,litW_size T Ls];simp;omega
theorem litW_own(T:TypeId):∀(Ls:List (List Int)) (w:World),(∀L∈Ls,L.length≤1000)→∀k L,Ls[k]?=some L→Own T w (litW T w Ls) (.slice (some ⟨w.heap.size+k,0,none⟩) L.length L.length) L
 | [],_,_,k,L,h=>by simp at h
 | M :: Ls,w,hb,k,L,h=>by
  rw[litW_cons]
  cases k with
  | zero =>
   simp at h
   subst h
   exact (own_made (TI:=T) (by have:=hb M (by simp);omega) (Ext.refl w) M rfl).ext (litW_ext T Ls _)
  | succ k =>
   have:=litW_own T Ls (w.alloc (.cells (M.map (Value.int .i64)).toArray T)) (fun N hN=>hb N (by simp[hN])) k L (by simpa using h)
   have e:(w.alloc (.cells (M.map (Value.int .i64)).toArray T)).heap.size+k=w.heap.size+(k+1):=by simp;omega
   rw[e] at this
   exact this.mono ((Ext.refl w).alloc _)
def gLits:List (List Int):=[[],[2],[3],[4],[5],[6],[7],[8],[9],[10],[11],[12],[2,2],[2,4],[3,3],[2,6],[2,2,2],[13],[16],[4,4],[2,2,3],[2,3],[24]]
def litV(n:Nat):List (List Int)→List Value
 | []=>[]
 | L :: Ls=>.slice (some ⟨n,0,none⟩) L.length L.length :: litV (n+1) Ls
theorem litV_get:∀(Ls:List (List Int)) (n k:Nat) (L:List Int),Ls[k]?=some L→(litV n Ls)[k]?=some (.slice (some ⟨n+k,0,none⟩) L.length L.length)
 | [],_,k,L,h=>by simp at h
 | M :: Ls,n,k,L,h=>by
  cases k with
  | zero=>simp at h;subst h;rfl
  | succ k =>
   have:=litV_get Ls (n+1) k L (by simpa using h)
   rw[show n+1+k=n+(k+1) by omega] at this
   simpa[litV] using this
theorem l2Draw_any(w0 w:World)(p:Nat)(m:Int)(h:Cur w0 w p) :
 Calls Tryz.prog 232 #[.pointer (some ⟨p,0,none⟩),.int .i64 m] w fun e w'=>∃ao L c,e=.returned (.agg #[.slice ao (List.length L) c])∧Own 3 w w' (.slice ao (List.length L) c) L∧Cur w0 w' p∧Drw p w w':=by
 go_enter Tryz.func232,Tryz.ntmps232
 go_wp2_with fail
 change Calls _ _ _ ((litW 3 (w.alloc (.cells #[.slice none 0 0] 27)) gLits).alloc (.cells (litV (w.heap.size+1) gLits).toArray 22)) _
 have hB0:Blk (w.alloc (.cells #[.slice none 0 0] 27)) w.heap.size 27 #[.slice none 0 0]:=Blk.new _ _ _
 have hE0:Ext w (w.alloc (.cells #[.slice none 0 0] 27)):=(Ext.refl w).alloc _
 have hs0:(w.alloc (.cells #[.slice none 0 0] 27)).heap.size=w.heap.size+1:=by simp
 have hOl:=fun k L (hk:gLits[k]?=some L)=>litW_own 3 gLits (w.alloc (.cells #[.slice none 0 0] 27)) (by decide) k L hk
 have hE1:=litW_ext 3 gLits (w.alloc (.cells #[.slice none 0 0] 27))
 have hs1:=litW_size 3 gLits (w.alloc (.cells #[.slice none 0 0] 27))
 generalize litW 3 (w.alloc (.cells #[.slice none 0 0] 27)) gLits=w1 at hOl hE1 hs1 ⊢
 generalize w.alloc (.cells #[.slice none 0 0] 27)=wA at hB0 hE0 hs0 hOl hE1 hs1
 have hlen:gLits.length=23:=rfl
 rw[hs0,hlen] at hs1
 have hBg:Blk (w1.alloc (.cells (litV (w.heap.size+1) gLits).toArray 22)) (w.heap.size+1+1+1+1+1+1+1+1+1+1+1+1+1+1+1+1+1+1+1+1+1+1+1+1) 22 (litV (w.heap.size+1) gLits).toArray:=Blk.new' (by omega)
 have hE2:Ext w1 (w1.alloc (.cells (litV (w.heap.size+1) gLits).toArray 22)):=(Ext.refl w1).alloc _
 generalize w1.alloc (.cells (litV (w.heap.size+1) gLits).toArray 22)=w2 at hBg hE2 ⊢
 have hp:=h.lt
 have hC2:=h.ext (hE0.trans (hE1.trans hE2))
 refine (l1Below_any w0 w2 p 23 (by omega) hC2).mono ?_
 rintro e w3 ⟨x,rfl,hb,hC,hF⟩
 obtain⟨hx0,hx1⟩:=hb.2 (by omega)
 obtain⟨k,rfl⟩:=Int.eq_ofNat_of_zero_le hx0
 have hk:k<23:=by omega
 obtain⟨L,hL⟩:∃L,gLits[k]?=some L:=⟨_,List.getElem?_eq_getElem (by rw[hlen];exact hk)⟩
 have hO3:=hF.own ((hOl k L hL).ext hE2) (by omega)
 have hBg3:=hF.blk hBg (by omega)
 have hcg:=hBg3.cell (i:=k) (v:=.slice (some ⟨w.heap.size+1+k,0,none⟩) L.length L.length) (by simpa using litV_get gLits (w.heap.size+1) k L hL)
 have hB3:=hF.blk (hB0.ext (hE1.trans hE2)) (by omega)
 have hl3:L.length≤3:=by
  have:∀L∈gLits,L.length≤3:=by decide
  exact this L (List.mem_of_getElem? hL)
 rw[hs0] at hO3
 obtain⟨g,hg⟩:∃g,g=w.heap.size+1+1+1+1+1+1+1+1+1+1+1+1+1+1+1+1+1+1+1+1+1+1+1+1:=⟨_,rfl⟩
 rw[←hg] at hcg ⊢
 have hixV:∀W,(Instr.indexAt 107 (.slice (some ⟨g,0,none⟩) 23 23) (.int .i64 (k:Int))).run Tryz.prog W=.ok (.pointer (some ⟨g,k,none⟩)) W:=fun W=>by
  rw[run_indexAt_slice (h:=elV),if_pos (by omega),szV]
  simp[Result.andThen,Addr.add_lit]
 obtain⟨b,hbd⟩:∃b,b=w.heap.size+1+k:=⟨_,rfl⟩
 rw[←hbd] at hcg hO3
 obtain⟨ao',c',adr,hv,-,hadr,hcell⟩:=hO3.ints.op
 simp only[Value.slice.injEq] at hv
 obtain⟨rfl,-,rfl⟩:=hv
 have hixo:=ints_index (c:=L.length) elI szI hadr
 have Hcell:=Lib.hid hcell
 have hkb:=hB3.cell (i:=0) (v:=.slice none 0 0) rfl
 have hfb:=hB3.free 0
 have hF3:=Lib.hid (((hE0.trans (hE1.trans hE2)).drw p).trans hF)
 have hsz:=hF.size
 have HE0:=Lib.hid hE0
 clear hadr hcell hB0 hE0 hs0 hOl hE1 hs1 hBg hE2 hC2 hF hb hL hBg3 hg hbd
 go_wp2_with fail
 go_loopw [7,8] (fun sn si wr=>∃(q:Nat) (n:Int),q≤L.length∧si=.int .i64 q∧sn=.int .i64 n∧wr=w3) (fun _ si _=>L.length - (intOf si).toNat)
 case atStart=>exact⟨0,_,by omega,rfl,rfl,rfl⟩
 case round =>
  obtain⟨q,n,hq,rfl,rfl,rfl⟩:=hrel
  by_cases hlt:q<L.length
  · have hltI:(q:Int)<(L.length:Int):=by omega
    have hck:=Hcell.out q wr hlt (Ext.refl _)
    go_wp2_with fail
    go_roundw
    case rel=>exact⟨q+1,_,by omega,by go_num,rfl,by trivial⟩
    case measure=>(simp[intOf];omega)
  · have hltI:¬(q:Int)<(L.length:Int):=by omega
    have hsw:w.heap.size<wr.heap.size:=hB3.lt
    by_cases hgt:m<n
    · have hO:=(own_made (TI:=3) (n:=1) (by omega) (Ext.refl wr) [5] rfl)
      have hBn:=hB3.alloc (.cells #[.int .i64 5] 3)
      have kbn:=hBn.cell (i:=0) (v:=.slice none 0 0) rfl
      have fbn:=hBn.free 0
      have kres:=(hBn.set 0 (.slice (some ⟨wr.heap.size,0,none⟩) 1 1)).cell (i:=0) (v:=.slice (some ⟨wr.heap.size,0,none⟩) 1 1) rfl
      go_wp2_with fail
      clear kbn fbn hBn hO kres
      have hs5:(wr.setCell ⟨w.heap.size,0,none⟩ (.slice (some ⟨wr.heap.size,0,none⟩) 1 1)).heap.size=wr.heap.size:=by simp
      have hO5:=(own_made (TI:=3) (n:=1) (by omega) (Ext.refl (wr.setCell ⟨w.heap.size,0,none⟩ (.slice (some ⟨wr.heap.size,0,none⟩) 1 1))) [5] rfl).low (w0:=w) (by omega)
      rw[hs5] at hO5
      have hC5:=(hC.other (b:=w.heap.size) (i:=0) (by omega) (by omega) (.slice (some ⟨wr.heap.size,0,none⟩) 1 1)).alloc (.cells #[.int .i64 5] 3)
      have hF5:=(hF3.out.set (Nat.le_refl _) 0 (.slice (some ⟨wr.heap.size,0,none⟩) 1 1)).alloc (.cells #[.int .i64 5] 3)
      have kres:=((hB3.set 0 (.slice (some ⟨wr.heap.size,0,none⟩) 1 1)).alloc (.cells #[.int .i64 5] 3)).cell (i:=0) (v:=.slice (some ⟨wr.heap.size,0,none⟩) 1 1) rfl
      change Own _ _ (World.alloc _ (.cells #[.int .i64 5] _)) _ _ at hO5
      generalize (wr.setCell ⟨w.heap.size,0,none⟩ (.slice (some ⟨wr.heap.size,0,none⟩) 1 1)).alloc (.cells #[.int .i64 5] 3)=w5 at kres hO5 hC5 hF5 ⊢
      refine bodyPost_ret (v:=.agg #[.slice (some ⟨wr.heap.size,0,none⟩) 1 1]) (by simp[results,Tryz.results232,go_sem,kres]) rfl ⟨_,[5],_,rfl,hO5,hC5,hF5⟩
    · have hO:=(own_made (TI:=3) (n:=0) (by omega) (Ext.refl wr) [] rfl)
      have hIL:=(hO3.alloc (.cells #[] 3)).ints
      have hEr:=(Ext.refl wr).alloc (.cells #[] 3)
      go_wp2_with (at_builtin;refine wp_appends slI rfl _ _ rfl _ _ _ _ _ _ hO hIL hEr (by simp;omega) rfl rfl ?_;intro v1 w4 hO4 hE4;obtain⟨a4,c4,rfl,-⟩:=hO4.shape;rw[List.nil_append] at hO4;have hB4:=hB3.ext hE4;have k4:=hB4.cell (i:=0) (v:=.slice none 0 0) rfl;have f4:=hB4.free 0)
      have kres:=(hB4.set 0 (.slice a4 L.length c4)).cell (i:=0) (v:=.slice a4 L.length c4) rfl
      have hO5:=(Own.setCell_below hO4 (p:=⟨w.heap.size,0,none⟩) hsw (.slice a4 L.length c4)).low (Nat.le_of_lt hsw)
      have hC5:=(hC.ext hE4).other (b:=w.heap.size) (i:=0) (by omega) (by omega) (.slice a4 L.length c4)
      have hF5:=(hF3.out.trans (hE4.drw p)).set (Nat.le_refl _) 0 (.slice a4 L.length c4)
      generalize w4.setCell ⟨w.heap.size,0,none⟩ (.slice a4 L.length c4)=w5 at kres hO5 hC5 hF5 ⊢
      refine bodyPost_ret (v:=.agg #[.slice a4 L.length c4]) (by simp[results,Tryz.results232,go_sem,kres]) rfl ⟨_,L,_,rfl,hO5,hC5,hF5⟩
end Go.Zz
namespace Go.Zz
open Go.RowKit Go.Proofs
set_option maxHeartbeats 2000000
set_option maxRecDepth 8000
theorem l2Any_any(w0 w:World)(p:Nat)(h:Cur w0 w p) :
 Calls Tryz.prog 204 #[.pointer (some ⟨p,0,none⟩)] w fun e w'=>∃ao L c,e=.returned (.agg #[.slice ao (List.length L) c])∧Own 3 w w' (.slice ao (List.length L) c) L∧Cur w0 w' p∧Drw p w w':=by
 have hp:=h.lt
 have hB0:Blk (w.alloc (.cells #[.slice none 0 0] 27)) w.heap.size 27 #[.slice none 0 0]:=Blk.new _ _ _
 have hs0:(w.alloc (.cells #[.slice none 0 0] 27)).heap.size=w.heap.size+1:=by simp
 go_enter Tryz.func204,Tryz.ntmps204
 go_wp2_with fail
 refine (l2Draw_any w0 _ p 24 (h.alloc _)).mono ?_
 rintro e w2 ⟨ao,L,c,rfl,hO2,hC2,hF2⟩
 have hB2:=hF2.blk hB0 (by omega)
 have hsz2:=hF2.size
 have hF02:=(((Ext.refl w).alloc (.cells #[.slice none 0 0] 27)).drw p).trans hF2
 have hBg:Blk (w2.alloc (.cells #[.slice ao L.length c] 27)) w2.heap.size 27 #[.slice ao L.length c]:=Blk.new _ _ _
 clear hB0 hF2
 go_wp2_with fail
 refine (l1Below_any w0 _ p 16 (by omega) (hC2.alloc _)).mono ?_
 rintro e w3 ⟨x,rfl,hb,hCr,hF3⟩
 obtain⟨hx0,hx1⟩:=hb.2 (by omega)
 have hBr:=hF3.blk (hB2.alloc (.cells #[.slice ao L.length c] 27)) (by omega)
 have hBg3:=hF3.blk hBg (by omega)
 have hO3:=hF3.own (hO2.alloc (.cells #[.slice ao L.length c] 27)) (by omega)
 have hsz3:=hF3.size
 have hsz4:w2.heap.size+1=(w2.alloc (.cells #[.slice ao L.length c] 27)).heap.size:=by simp
 have hFr:=Lib.hid ((hF02.alloc (.cells #[.slice ao L.length c] 27)).trans hF3)
 clear hB2 hBg hO2 hF3 hF02
 by_cases e0:x=0
 · subst e0
   have hOl:=own_made (TI:=3) (n:=5) (by omega) (Ext.refl w3) [0,1,-1,25,9223372036854775807] rfl
   go_wp2_with fail
   refine (l1PickInt_any w0 _ w3 p _ _ (hCr.alloc _) hOl (by omega) (by decide) (by decide)).mono ?_
   rintro e w4 ⟨k,hk,rfl,hC4,hF4⟩
   have hBr4:=hF4.blk (hBr.alloc _) (by omega)
   have hFr4:=Lib.hid ((hFr.out.alloc _).trans hF4)
   have hsz5:=hF4.size
   obtain⟨y,hy⟩:∃y,y=nth [0,1,-1,25,9223372036854775807] k:=⟨_,rfl⟩
   rw[←hy]
   clear hy hBr hFr hCr hF4 hOl hk
   have hBr:=hBr4
   have hFr:=hFr4
   have hCr:=hC4
   clear hBr4 hFr4 hC4
   have hsw:=hBr.lt
   have hBn:=hBr.alloc (.cells #[.int .i64 y] 3)
   have kbn:=hBn.cell (i:=0) (v:=.slice none 0 0) rfl
   have fbn:=hBn.free 0
   go_wp2_with fail
   clear kbn fbn hBn
   have hs5:(w4.setCell ⟨w.heap.size,0,none⟩ (.slice (some ⟨w4.heap.size,0,none⟩) 1 1)).heap.size=w4.heap.size:=by simp
   have hO5:=(own_made (TI:=3) (n:=1) (by omega) (Ext.refl (w4.setCell ⟨w.heap.size,0,none⟩ (.slice (some ⟨w4.heap.size,0,none⟩) 1 1))) [y] rfl).low (w0:=w) (by have:=hBr.lt;omega)
   rw[hs5] at hO5
   have hC5:=(hCr.other (b:=w.heap.size) (i:=0) (by omega) (by omega) (.slice (some ⟨w4.heap.size,0,none⟩) 1 1)).alloc (.cells #[.int .i64 y] 3)
   have hF5:=(hFr.out.set (Nat.le_refl _) 0 (.slice (some ⟨w4.heap.size,0,none⟩) 1 1)).alloc (.cells #[.int .i64 y] 3)
   have kres:=((hBr.set 0 (.slice (some ⟨w4.heap.size,0,none⟩) 1 1)).alloc (.cells #[.int .i64 y] 3)).cell (i:=0) (v:=.slice (some ⟨w4.heap.size,0,none⟩) 1 1) rfl
   change Own _ _ (World.alloc _ (.cells #[.int .i64 y] _)) _ _ at hO5
   generalize (w4.setCell ⟨w.heap.size,0,none⟩ (.slice (some ⟨w4.heap.size,0,none⟩) 1 1)).alloc (.cells #[.int .i64 y] 3)=w5 at kres hO5 hC5 hF5 ⊢
   refine bodyPost_ret (v:=.agg #[.slice (some ⟨w4.heap.size,0,none⟩) 1 1]) (by simp[results,Tryz.results204,go_sem,kres]) rfl ⟨_,[y],_,rfl,hO5,hC5,hF5⟩
 · have h0:(x == 0)=false:=by rw[beq_eq_false_iff_ne];exact e0
   by_cases e1:x=1
   · subst e1
     have hsw:=hBr.lt
     have hBn:=hBr.alloc (.cells #[.int .i64 2,.int .i64 2,.int .i64 2,.int .i64 2] 3)
     have kbn:=hBn.cell (i:=0) (v:=.slice none 0 0) rfl
     have fbn:=hBn.free 0
     go_wp2_with fail
     clear kbn fbn hBn
     have hs5:(w3.setCell ⟨w.heap.size,0,none⟩ (.slice (some ⟨w3.heap.size,0,none⟩) 4 4)).heap.size=w3.heap.size:=by simp
     have hO5:=(own_made (TI:=3) (n:=4) (by omega) (Ext.refl (w3.setCell ⟨w.heap.size,0,none⟩ (.slice (some ⟨w3.heap.size,0,none⟩) 4 4))) [2,2,2,2] rfl).low (w0:=w) (by have:=hBr.lt;omega)
     rw[hs5] at hO5
     have hC5:=(hCr.other (b:=w.heap.size) (i:=0) (by omega) (by omega) (.slice (some ⟨w3.heap.size,0,none⟩) 4 4)).alloc (.cells #[.int .i64 2,.int .i64 2,.int .i64 2,.int .i64 2] 3)
     have hF5:=(hFr.out.set (Nat.le_refl _) 0 (.slice (some ⟨w3.heap.size,0,none⟩) 4 4)).alloc (.cells #[.int .i64 2,.int .i64 2,.int .i64 2,.int .i64 2] 3)
     have kres:=((hBr.set 0 (.slice (some ⟨w3.heap.size,0,none⟩) 4 4)).alloc (.cells #[.int .i64 2,.int .i64 2,.int .i64 2,.int .i64 2] 3)).cell (i:=0) (v:=.slice (some ⟨w3.heap.size,0,none⟩) 4 4) rfl
     change Own _ _ (World.alloc _ (.cells #[.int .i64 2,.int .i64 2,.int .i64 2,.int .i64 2] _)) _ _ at hO5
     generalize (w3.setCell ⟨w.heap.size,0,none⟩ (.slice (some ⟨w3.heap.size,0,none⟩) 4 4)).alloc (.cells #[.int .i64 2,.int .i64 2,.int .i64 2,.int .i64 2] 3)=w5 at kres hO5 hC5 hF5 ⊢
     refine bodyPost_ret (v:=.agg #[.slice (some ⟨w3.heap.size,0,none⟩) 4 4]) (by simp[results,Tryz.results204,go_sem,kres]) rfl ⟨_,[2,2,2,2],_,rfl,hO5,hC5,hF5⟩
   · have h1:(x == 1)=false:=by rw[beq_eq_false_iff_ne];exact e1
     by_cases e2:x=2
     · subst e2
       have hsw:=hBr.lt
       have hBn:=hBr.alloc (.cells #[.int .i64 5,.int .i64 5] 3)
       have kbn:=hBn.cell (i:=0) (v:=.slice none 0 0) rfl
       have fbn:=hBn.free 0
       go_wp2_with fail
       clear kbn fbn hBn
       have hs5:(w3.setCell ⟨w.heap.size,0,none⟩ (.slice (some ⟨w3.heap.size,0,none⟩) 2 2)).heap.size=w3.heap.size:=by simp
       have hO5:=(own_made (TI:=3) (n:=2) (by omega) (Ext.refl (w3.setCell ⟨w.heap.size,0,none⟩ (.slice (some ⟨w3.heap.size,0,none⟩) 2 2))) [5,5] rfl).low (w0:=w) (by have:=hBr.lt;omega)
       rw[hs5] at hO5
       have hC5:=(hCr.other (b:=w.heap.size) (i:=0) (by omega) (by omega) (.slice (some ⟨w3.heap.size,0,none⟩) 2 2)).alloc (.cells #[.int .i64 5,.int .i64 5] 3)
       have hF5:=(hFr.out.set (Nat.le_refl _) 0 (.slice (some ⟨w3.heap.size,0,none⟩) 2 2)).alloc (.cells #[.int .i64 5,.int .i64 5] 3)
       have kres:=((hBr.set 0 (.slice (some ⟨w3.heap.size,0,none⟩) 2 2)).alloc (.cells #[.int .i64 5,.int .i64 5] 3)).cell (i:=0) (v:=.slice (some ⟨w3.heap.size,0,none⟩) 2 2) rfl
       change Own _ _ (World.alloc _ (.cells #[.int .i64 5,.int .i64 5] _)) _ _ at hO5
       generalize (w3.setCell ⟨w.heap.size,0,none⟩ (.slice (some ⟨w3.heap.size,0,none⟩) 2 2)).alloc (.cells #[.int .i64 5,.int .i64 5] 3)=w5 at kres hO5 hC5 hF5 ⊢
       refine bodyPost_ret (v:=.agg #[.slice (some ⟨w3.heap.size,0,none⟩) 2 2]) (by simp[results,Tryz.results204,go_sem,kres]) rfl ⟨_,[5,5],_,rfl,hO5,hC5,hF5⟩
     · have h2:(x == 2)=false:=by rw[beq_eq_false_iff_ne];exact e2
       have kr:=hBr.cell (i:=0) (v:=.slice none 0 0) rfl
       have fr:=hBr.free 0
       have kg:=hBg3.cell (i:=0) (v:=.slice ao L.length c) rfl
       have kres:=(hBr.set 0 (.slice ao L.length c)).cell (i:=0) (v:=.slice ao L.length c) rfl
       have hO5:Own 3 w (w3.setCell ⟨w.heap.size,0,none⟩ (.slice ao L.length c)) (.slice ao L.length c) L:=(hO3.setCell_below (p:=⟨w.heap.size,0,none⟩) (by rw[hs0];exact Nat.lt_succ_self _) _).low (by omega)
       have hC5:=hCr.other (b:=w.heap.size) (i:=0) (by omega) (by omega) (.slice ao L.length c)
       have hF5:=hFr.out.set (Nat.le_refl _) 0 (.slice ao L.length c)
       go_wp2_with fail
       generalize w3.setCell ⟨w.heap.size,0,none⟩ (.slice ao L.length c)=w5 at kres hO5 hC5 hF5 ⊢
       refine bodyPost_ret (v:=.agg #[.slice ao L.length c]) (by simp[results,Tryz.results204,go_sem,kres]) rfl ⟨_,L,_,rfl,hO5,hC5,hF5⟩
theorem l2Element_any(w0 w wA:World)(p:Nat)(v:Value)(L:List Int)(h:Cur w0 w p)(hO:Own 3 wA w v L)(hpA:p<wA.heap.size) :
 Calls Tryz.prog 212 #[.pointer (some ⟨p,0,none⟩),.agg #[v]] w fun e w'=>∃x,e=.returned (.int .i64 x)∧(-9223372036854775808≤x∧x≤9223372036854775807)∧Cur w0 w' p∧Drw p w w':=by
 have hp:=h.lt
 have hB0:Blk (w.alloc (.cells #[v] 27)) w.heap.size 27 #[v]:=Blk.new _ _ _
 have hO0:=hO.alloc (.cells #[v] 27)
 go_enter Tryz.func212,Tryz.ntmps212
 go_wp2_with fail
 refine (l1Once_any w0 _ p 16 (by omega) (h.alloc _)).mono ?_
 rintro e w2 ⟨b,rfl,hC2,hF2⟩
 have hB2:=hF2.blk hB0 (by omega)
 have hO2:=hF2.own hO0 hpA
 have hF02:=Lib.hid ((((Ext.refl w).alloc (.cells #[v] 27)).drw p).trans hF2)
 have hsz2:=hF2.size
 have hsz1:(w.alloc (.cells #[v] 27)).heap.size=w.heap.size+1:=by simp
 clear hO hO0 hB0 hF2
 cases b
 · have kb:=hB2.cell (i:=0) (v:=v) rfl
   have hob:=ordF_bd L
   go_wp2_with fail
   refine (sOrderOf_any _ L _ hO2.ints).mono ?_
   rintro e w3 ⟨rfl,hE3⟩
   obtain⟨n,hn⟩:∃n,n=ordF L:=⟨_,rfl⟩
   rw[←hn] at hob ⊢
   have hC3:=hC2.ext hE3
   have hF3:=Lib.hid (hF02.out.trans (hE3.drw p))
   clear hn
   by_cases h1n:1<n
   · go_wp2_with fail
     refine (l1Below_any w0 _ p n (by omega) hC3).mono ?_
     rintro e w4 ⟨x,rfl,hb,hC4,hF4⟩
     have hx:=hb.2 (by omega)
     have hF4':=hF3.out.trans hF4
     go_wp2_with fail
     go_ret
     exact⟨_,rfl,⟨by omega,by omega⟩,hC4,hF4'⟩
   · go_wp2_with fail
     refine (l1Below_any w0 _ p 1 (by omega) hC3).mono ?_
     rintro e w4 ⟨x,rfl,hb,hC4,hF4⟩
     have hx:=hb.2 (by omega)
     have hF4':=hF3.out.trans hF4
     go_wp2_with fail
     go_ret
     exact⟨_,rfl,⟨by omega,by omega⟩,hC4,hF4'⟩
 · have hOl:=own_made (TI:=3) (n:=3) (by omega) (Ext.refl w2) [-1,24,9223372036854775807] rfl
   go_wp2_with fail
   refine (l1PickInt_any w0 _ w2 p _ _ (hC2.alloc _) hOl (by omega) (by decide) (by decide)).mono ?_
   rintro e w4 ⟨k,hk,rfl,hC4,hF4⟩
   have hF4':=(hF02.out.alloc _).trans hF4
   have hy : -9223372036854775808≤nth [-1,24,9223372036854775807] k∧nth [-1,24,9223372036854775807] k≤9223372036854775807:=by
    have:k=0∨k=1∨k=2:=by simp at hk;omega
    rcases this with rfl | rfl | rfl<;>decide
   obtain⟨y,hyd⟩:∃y,y=nth [-1,24,9223372036854775807] k:=⟨_,rfl⟩
   rw[←hyd] at hy ⊢
   clear hyd hOl
   go_wp2_with fail
   go_ret
   exact⟨_,rfl,hy,hC4,hF4'⟩
theorem l3Set_any(w0 w wA:World)(p:Nat)(v:Value)(L:List Int)(h:Cur w0 w p)(hO:Own 3 wA w v L)(hpA:p<wA.heap.size) :
 Calls Tryz.prog 165 #[.pointer (some ⟨p,0,none⟩),.agg #[v]] w fun e w'=>∃x,e=.returned (.int .i64 x)∧(-9223372036854775808≤x∧x≤9223372036854775807)∧Cur w0 w' p∧Drw p w w':=by
 have hp:=h.lt
 have hB0:Blk (w.alloc (.cells #[v] 27)) w.heap.size 27 #[v]:=Blk.new _ _ _
 have kb:=hB0.cell (i:=0) (v:=v) rfl
 have hO0:=hO.alloc (.cells #[v] 27)
 have hob:=ordF_bd L
 go_enter Tryz.func165,Tryz.ntmps165
 go_wp2_with fail
 refine (sOrderOf_any _ L _ hO0.ints).mono ?_
 rintro e w1 ⟨rfl,hE1⟩
 obtain⟨n,hn⟩:∃n,n=ordF L:=⟨_,rfl⟩
 rw[←hn] at hob ⊢
 have hC1:=(h.alloc (.cells #[v] 27)).ext hE1
 have hF1:=Lib.hid (((((Ext.refl w).alloc (.cells #[v] 27))).trans hE1).drw p)
 have hsz2:=hE1.size
 have hsz1:(w.alloc (.cells #[v] 27)).heap.size=w.heap.size+1:=by simp
 clear hO hO0 hB0 kb hE1 hn
 obtain⟨m,rfl⟩:=Int.eq_ofNat_of_zero_le hob.1
 have hm24:m≤24:=by omega
 have hP1:=pw_pos m
 have hP2:=pw_le hm24
 have hq:=ishl_one (n:=m) (by omega)
 by_cases h1n:1<(m:Int)
 · go_wp2_with fail
   refine (l1Below_any w0 _ p 6 (by omega) hC1).mono ?_
   rintro e w2 ⟨x,rfl,hb,hC2,hF2⟩
   obtain⟨hx0,hx1⟩:=hb.2 (by omega)
   have hF2':=Lib.hid (hF1.out.trans hF2)
   have hsz3:=hF2.size
   clear hF1 hC1 hF2 hb
   go_wp2_with fail
   go_loopw [6,7] (fun sa sk wr=>∃(k:Int) (a:Nat),a<2 ^ 24∧0≤k∧k≤6∧sk=.int .i64 k∧sa=.int .i64 a∧Cur w0 wr p∧Hid (Drw p w wr)∧w2.heap.size≤wr.heap.size) (fun _ sk _=>(intOf sk).toNat)
   case atStart=>exact⟨x,0,by decide,hx0,by omega,rfl,rfl,hC2,hF2',Nat.le_refl _⟩
   case round =>
    rename World=>wr
    clear hC2 hF2' hx0 hx1
    obtain⟨k,a,ha,hk0,hk6,rfl,rfl,hC,hF,hsz4⟩:=hrel
    by_cases hlt:0<k
    · go_wp2_with fail
      refine (l1Below_any w0 _ p (m:Int) (by omega) hC).mono ?_
      rintro e w3 ⟨y,rfl,hb,hC3,hF3⟩
      obtain⟨hy0,hy1⟩:=hb.2 (by omega)
      obtain⟨z,rfl⟩:=Int.eq_ofNat_of_zero_le hy0
      have hz:z<24:=by omega
      have q1:=ishl_one (n:=z) (by omega)
      have q2:=ior_pw ha hz
      have ha2:a ||| 2 ^ z<2 ^ 24:=Nat.or_lt_two_pow ha (Nat.pow_lt_pow_right (by omega) hz)
      have hF3':=Lib.hid (hF.out.trans hF3)
      have hsz5:=hF3.size
      clear hb hF3
      go_wp2_with fail
      go_roundw
      case rel=>exact⟨k - 1,a ||| 2 ^ z,ha2,by omega,by omega,by go_num,rfl,hC3,hF3',by omega⟩
      case measure=>(simp[intOf];omega)
    · go_wp2_with fail
      refine (l1Below_any w0 _ p 20 (by omega) hC).mono ?_
      rintro e w3 ⟨y,rfl,hb,hC3,hF3⟩
      obtain⟨hy0,hy1⟩:=hb.2 (by omega)
      have hF3':=Lib.hid (hF.out.trans hF3)
      have hsz5:=hF3.size
      clear hb hF3
      by_cases e0:y=0
      · subst e0
        skip
        go_wp2_with fail
        go_ret
        exact⟨_,rfl,⟨by omega,by omega⟩,hC3,hF3'.out⟩
      · have h0:(y == 0)=false:=by rw[beq_eq_false_iff_ne];exact e0
        by_cases e1:y=1
        · subst e1
          have hOl:=own_made (TI:=3) (n:=3) (by omega) (Ext.refl w3) [-1,16777216,9223372036854775807] rfl
          go_wp2_with fail
          refine (l1PickInt_any w0 _ w3 p _ _ (hC3.alloc _) hOl (by omega) (by decide) (by decide)).mono ?_
          rintro e w4 ⟨j,hj,rfl,hC4,hF4⟩
          have hF4':=(hF3'.out.alloc _).trans hF4
          have hy : -9223372036854775808≤nth [-1,16777216,9223372036854775807] j∧nth [-1,16777216,9223372036854775807] j≤9223372036854775807:=by
           have:j=0∨j=1∨j=2:=by simp at hj;omega
           rcases this with rfl | rfl | rfl<;>decide
          obtain⟨y,hyd⟩:∃y,y=nth [-1,16777216,9223372036854775807] j:=⟨_,rfl⟩
          rw[←hyd] at hy ⊢
          clear hyd hOl
          go_wp2_with fail
          go_ret
          exact⟨_,rfl,hy,hC4,hF4'⟩
        · have h1:(y == 1)=false:=by rw[beq_eq_false_iff_ne];exact e1
          go_wp2_with fail
          go_ret
          exact⟨_,rfl,⟨by omega,by omega⟩,hC3,hF3'.out⟩
 · go_wp2_with fail
   refine (l1Below_any w0 _ p 6 (by omega) hC1).mono ?_
   rintro e w2 ⟨x,rfl,hb,hC2,hF2⟩
   obtain⟨hx0,hx1⟩:=hb.2 (by omega)
   have hF2':=Lib.hid (hF1.out.trans hF2)
   have hsz3:=hF2.size
   clear hF1 hC1 hF2 hb
   go_wp2_with fail
   go_loopw [6,7] (fun sa sk wr=>∃(k:Int) (a:Nat),a<2 ^ 24∧0≤k∧k≤6∧sk=.int .i64 k∧sa=.int .i64 a∧Cur w0 wr p∧Hid (Drw p w wr)∧w2.heap.size≤wr.heap.size) (fun _ sk _=>(intOf sk).toNat)
   case atStart=>exact⟨x,0,by decide,hx0,by omega,rfl,rfl,hC2,hF2',Nat.le_refl _⟩
   case round =>
    rename World=>wr
    clear hC2 hF2' hx0 hx1
    obtain⟨k,a,ha,hk0,hk6,rfl,rfl,hC,hF,hsz4⟩:=hrel
    by_cases hlt:0<k
    · go_wp2_with fail
      refine (l1Below_any w0 _ p 1 (by omega) hC).mono ?_
      rintro e w3 ⟨y,rfl,hb,hC3,hF3⟩
      obtain⟨hy0,hy1⟩:=hb.2 (by omega)
      obtain⟨z,rfl⟩:=Int.eq_ofNat_of_zero_le hy0
      have hz:z<24:=by omega
      have q1:=ishl_one (n:=z) (by omega)
      have q2:=ior_pw ha hz
      have ha2:a ||| 2 ^ z<2 ^ 24:=Nat.or_lt_two_pow ha (Nat.pow_lt_pow_right (by omega) hz)
      have hF3':=Lib.hid (hF.out.trans hF3)
      have hsz5:=hF3.size
      clear hb hF3
      go_wp2_with fail
      go_roundw
      case rel=>exact⟨k - 1,a ||| 2 ^ z,ha2,by omega,by omega,by go_num,rfl,hC3,hF3',by omega⟩
      case measure=>(simp[intOf];omega)
    · go_wp2_with fail
      refine (l1Below_any w0 _ p 20 (by omega) hC).mono ?_
      rintro e w3 ⟨y,rfl,hb,hC3,hF3⟩
      obtain⟨hy0,hy1⟩:=hb.2 (by omega)
      have hF3':=Lib.hid (hF.out.trans hF3)
      have hsz5:=hF3.size
      clear hb hF3
      by_cases e0:y=0
      · subst e0
        have hq1:ishl 1 1=2:=by decide
        go_wp2_with fail
        go_ret
        exact⟨_,rfl,⟨by omega,by omega⟩,hC3,hF3'.out⟩
      · have h0:(y == 0)=false:=by rw[beq_eq_false_iff_ne];exact e0
        by_cases e1:y=1
        · subst e1
          have hOl:=own_made (TI:=3) (n:=3) (by omega) (Ext.refl w3) [-1,16777216,9223372036854775807] rfl
          go_wp2_with fail
          refine (l1PickInt_any w0 _ w3 p _ _ (hC3.alloc _) hOl (by omega) (by decide) (by decide)).mono ?_
          rintro e w4 ⟨j,hj,rfl,hC4,hF4⟩
          have hF4':=(hF3'.out.alloc _).trans hF4
          have hy : -9223372036854775808≤nth [-1,16777216,9223372036854775807] j∧nth [-1,16777216,9223372036854775807] j≤9223372036854775807:=by
           have:j=0∨j=1∨j=2:=by simp at hj;omega
           rcases this with rfl | rfl | rfl<;>decide
          obtain⟨y,hyd⟩:∃y,y=nth [-1,16777216,9223372036854775807] j:=⟨_,rfl⟩
          rw[←hyd] at hy ⊢
          clear hyd hOl
          go_wp2_with fail
          go_ret
          exact⟨_,rfl,hy,hC4,hF4'⟩
        · have h1:(y == 1)=false:=by rw[beq_eq_false_iff_ne];exact e1
          go_wp2_with fail
          go_ret
          exact⟨_,rfl,⟨by omega,by omega⟩,hC3,hF3'.out⟩
end Go.Zz
