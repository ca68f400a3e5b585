/- Kneser's theorem for finite commutative groups: plain. -/
namespace Go.Zz
namespace Kn
set_option linter.unusedVariables false
structure Ab(G:Type) where
 els:List G
 nodup:els.Nodup
 all:∀x,x∈els
 add:G→G→G
 zero:G
 neg:G→G
 comm:∀x y,add x y=add y x
 assoc:∀x y z,add (add x y) z=add x (add y z)
 add_zero:∀x,add x zero=x
 add_neg:∀x,add x (neg x)=zero
variable {G:Type} (g:Ab G)
theorem Ab.zero_add(x:G):g.add g.zero x=x:=by rw[g.comm];exact g.add_zero x
theorem Ab.neg_add(x:G):g.add (g.neg x) x=g.zero:=by rw[g.comm];exact g.add_neg x
theorem Ab.add_sub(x y:G):g.add (g.add x y) (g.neg y)=x:=by rw[g.assoc,g.add_neg,g.add_zero]
theorem Ab.sub_add(x y:G):g.add (g.add x (g.neg y)) y=x:=by rw[g.assoc,g.neg_add,g.add_zero]
theorem Ab.cancel{x y z:G}(h:g.add x z=g.add y z):x=y:=by rw[←g.add_sub x z,h,g.add_sub]
theorem Ab.left_comm(x y z:G):g.add x (g.add y z)=g.add y (g.add x z):=by rw[←g.assoc,g.comm x y,g.assoc]
theorem Ab.neg_neg(x:G):g.neg (g.neg x)=x:=g.cancel (z:=g.neg x) (by rw[g.neg_add,g.add_neg])
theorem Ab.neg_sum(x y:G):g.neg (g.add x y)=g.add (g.neg x) (g.neg y) :=
 g.cancel (z:=g.add x y) (by rw[g.neg_add,g.assoc,g.left_comm (g.neg y),g.neg_add,g.add_zero,g.neg_add])
def card(S:G→Bool):Nat:=g.els.countP S
variable {g}
theorem card_le{S T:G→Bool}(h:∀x,S x=true→T x=true):card g S≤card g T:=List.countP_mono_left (fun x _=>h x)
theorem card_congr{S T:G→Bool}(h:∀x,S x=T x):card g S=card g T:=by rw[show S=T from funext h]
theorem card_pos{S:G→Bool}{x:G}(h:S x=true):0<card g S:=List.countP_pos_iff.2 ⟨x,g.all x,h⟩
theorem card_has{S:G→Bool}(h:0<card g S):∃x,S x=true:=by obtain⟨x,-,hx⟩:=List.countP_pos_iff.1 h;exact⟨x,hx⟩
theorem countP_split(L:List G)(S T:G→Bool):L.countP S=L.countP (fun x=>S x&&T x)+L.countP (fun x=>S x && !T x):=by
 induction L with
 | nil=>rfl
 | cons x L ih=>rw[List.countP_cons,List.countP_cons,List.countP_cons,ih];cases S x<;>cases T x<;>simp<;>omega
theorem card_split(S T:G→Bool):card g S=card g (fun x=>S x&&T x)+card g (fun x=>S x && !T x):=countP_split _ _ _
theorem card_or(S T:G→Bool):card g (fun x=>S x || T x)=card g S+card g (fun x=>T x && !S x):=by
 rw[card_split (g:=g) (fun x=>S x || T x) S]
 congr 1<;>apply card_congr<;>intro x<;>cases S x<;>cases T x<;>rfl
theorem card_shift(S:G→Bool)(a:G):card g (fun x=>S (g.add x a))=card g S:=by
 unfold card
 have h1:(g.els.map (fun x=>g.add x a)).Nodup:=by
  rw[List.nodup_iff_pairwise_ne,List.pairwise_map]
  exact (List.nodup_iff_pairwise_ne.1 g.nodup).imp (fun hne e=>hne (g.cancel e))
 have h2:(g.els.map (fun x=>g.add x a)).Perm g.els:=by
  rw[List.perm_ext_iff_of_nodup h1 g.nodup]
  intro y
  refine⟨fun _=>g.all y,fun _=>List.mem_map.2 ⟨g.add y (g.neg a),g.all _,g.sub_add y a⟩⟩
 conv=>rhs;rw[←h2.countP_eq,List.countP_map]
 rfl
theorem card_eq_of{S T:G→Bool}(h:∀x,S x=true→T x=true)(hc:card g T≤card g S):∀x,T x=true→S x=true:=fun x hx=>by
 have h1:=card_split (g:=g) T S
 have h2:card g (fun x=>T x&&S x)=card g S:=card_congr fun y=>by cases hs:S y;simp;rw[h y hs];rfl
 cases hs:S x with
 | true=>rfl
 | false =>
  have:0<card g (fun x=>T x && !S x):=card_pos (x:=x) (by rw[hx,hs];rfl)
  omega
def sm(L:List G)(f:G→Nat):Nat:=L.foldr (fun x s=>f x+s) 0
theorem sm_add(L:List G)(f k:G→Nat):sm L (fun x=>f x+k x)=sm L f+sm L k:=by
 induction L with
 | nil=>rfl
 | cons x L ih=>simp only[sm,List.foldr_cons] at ih ⊢;omega
theorem sm_zero(L:List G):sm L (fun _=>0)=0:=by
 induction L with
 | nil=>rfl
 | cons x L ih=>simp only[sm,List.foldr_cons] at ih ⊢;omega
theorem sm_le(L:List G){f k:G→Nat}(h:∀x,f x≤k x):sm L f≤sm L k:=by
 induction L with
 | nil=>exact Nat.le_refl _
 | cons x L ih=>simp only[sm,List.foldr_cons] at ih ⊢;have:=h x;omega
theorem sm_swap(L M:List G)(F:G→G→Nat):sm L (fun x=>sm M (F x))=sm M (fun y=>sm L (fun x=>F x y)):=by
 induction L with
 | nil=>exact (sm_zero M).symm
 | cons x L ih =>
  have e:sm (x :: L) (fun x=>sm M (F x))=sm M (F x)+sm L (fun x=>sm M (F x)):=rfl
  rw[e,ih,←sm_add];rfl
theorem sm_if(L:List G)(S:G→Bool)(m:Nat):sm L (fun x=>if S x then m else 0)=L.countP S*m:=by
 induction L with
 | nil=>simp[sm]
 | cons x L ih =>
  have e:sm (x :: L) (fun x=>if S x then m else 0)=(if S x then m else 0)+sm L (fun x=>if S x then m else 0):=rfl
  rw[e,ih,List.countP_cons,Nat.add_mul]
  cases S x<;>simp;omega
theorem cnt_sm(L:List G)(S:G→Bool):L.countP S=sm L (fun x=>if S x then 1 else 0):=by rw[sm_if,Nat.mul_one]
structure Sub(g:Ab G)(H:G→Bool):Prop where
 zero:H g.zero=true
 add:∀x y,H x=true→H y=true→H (g.add x y)=true
 neg:∀x,H x=true→H (g.neg x)=true
def per(g:Ab G)(H C:G→Bool):Prop:=∀h,H h=true→∀x,C (g.add x h)=C x
theorem Sub.sub{H:G→Bool}(h:Sub g H){x y:G}(hx:H x=true)(hy:H y=true):H (g.add x (g.neg y))=true:=h.add _ _ hx (h.neg _ hy)
theorem Sub.and{H K:G→Bool}(h:Sub g H)(k:Sub g K):Sub g (fun x=>H x&&K x) :=
 ⟨by rw[h.zero,k.zero];rfl,fun x y hx hy=>by rw[Bool.and_eq_true] at hx hy ⊢;exact⟨h.add _ _ hx.1 hy.1,k.add _ _ hx.2 hy.2⟩,fun x hx=>by rw[Bool.and_eq_true] at hx ⊢;exact⟨h.neg _ hx.1,k.neg _ hx.2⟩⟩
theorem pairs_le{R S T:G→Bool}(c:G)(m:Nat)(h1:∀r s,R r=true→S s=true→T (g.add (g.add r s) (g.neg c))=true)
 (h2:∀t,T t=true→card g (fun r=>R r&&S (g.add (g.add t (g.neg r)) c))≤m):card g R*card g S≤card g T*m:=by
 have e1:card g R*card g S=sm g.els (fun r=>if R r then card g S else 0):=(sm_if _ _ _).symm
 have e2:∀r,(if R r then card g S else 0)≤sm g.els (fun t=>if T t&&(R r&&S (g.add (g.add t (g.neg r)) c)) then 1 else 0):=fun r=>by
  cases hr:R r with
  | false=>exact Nat.zero_le _
  | true =>
   rw[if_pos rfl,←cnt_sm]
   have k:=card_shift (g:=g) (fun t=>T t&&(true&&S (g.add (g.add t (g.neg r)) c))) (g.add r (g.neg c))
   show _≤card g (fun t=>T t&&(true&&S (g.add (g.add t (g.neg r)) c)))
   rw[←k]
   apply card_le
   intro s hs
   have q1:g.add (g.add (g.add s (g.add r (g.neg c))) (g.neg r)) c=s:=by
    rw[g.assoc,g.assoc,g.assoc,g.left_comm (g.neg c),g.neg_add,g.add_zero,g.add_neg,g.add_zero]
   have q2:g.add s (g.add r (g.neg c))=g.add (g.add r s) (g.neg c):=by rw[g.left_comm,g.assoc]
   simp only[Bool.true_and,Bool.and_eq_true]
   rw[q1,q2]
   exact⟨h1 r s hr hs,hs⟩
 have e3:sm g.els (fun r=>sm g.els (fun t=>if T t&&(R r&&S (g.add (g.add t (g.neg r)) c)) then 1 else 0))=sm g.els (fun t=>sm g.els (fun r=>if T t&&(R r&&S (g.add (g.add t (g.neg r)) c)) then 1 else 0)):=sm_swap _ _ _
 have e4:∀t,sm g.els (fun r=>if T t&&(R r&&S (g.add (g.add t (g.neg r)) c)) then 1 else 0)≤(if T t then m else 0):=fun t=>by
  rw[←cnt_sm]
  cases ht:T t with
  | false=>simp
  | true=>rw[if_pos rfl];refine Nat.le_trans ?_ (h2 t ht);exact Nat.le_of_eq (card_congr (g:=g) fun r=>by rw[Bool.true_and])
 rw[e1]
 refine Nat.le_trans (sm_le _ e2) ?_
 rw[e3]
 refine Nat.le_trans (sm_le _ e4) ?_
 rw[sm_if];exact Nat.le_refl _
theorem coset_le{L S:G→Bool}(hp:per g L S){c:G}(hc:S c=true):card g L≤card g S:=by
 rw[←card_shift (g:=g) S c]
 apply card_le
 intro x hx
 rw[g.comm,hp x hx];exact hc
theorem arith{l r r' s s' p q h1 h2:Nat}(hl:0<l)(e1:r+r'=h1)(e2:s+s'=h2)(hr:l≤r)(hs:l≤s)(hr':l≤r')(hs':l≤s')(hp:r*s≤p*l)(hq:r'*s'≤q*l)(k1:p+l<h1)(k2:q+l<h2):False:=by
 obtain⟨x,rfl⟩:∃x,s=l+x:=⟨s - l,by omega⟩
 obtain⟨y,rfl⟩:∃y,r'=l+y:=⟨r' - l,by omega⟩
 have a1:p*l+l<(r+y)*l+1*l:=by
  have:p+1≤r+y:=by omega
  have:=Nat.mul_le_mul_right l this
  rw[Nat.add_mul] at this;omega
 have a2:q*l+l≤(x+s')*l:=by
  have:q+1≤x+s':=by omega
  have:=Nat.mul_le_mul_right l this
  rw[Nat.add_mul] at this;omega
 have b1:r*l+l*x≤r*(l+x):=by rw[Nat.mul_add];have:=Nat.mul_le_mul_right x hr;omega
 have b2:l*s'+y*l≤(l+y)*s':=by rw[Nat.add_mul];have:=Nat.mul_le_mul_left y hs';omega
 rw[Nat.add_mul] at a1 a2
 have c1:l*x+l≤y*l:=by
  have a3:p*l+l≤r*l+y*l:=by
   have:p+1≤r+y:=by omega
   have:=Nat.mul_le_mul_right l this
   rw[Nat.add_mul,Nat.add_mul] at this;omega
  omega
 have c2:y*l+l≤x*l:=by
  have:s'*l=l*s':=Nat.mul_comm _ _
  omega
 have:l*x=x*l:=Nat.mul_comm _ _
 omega
theorem half{C1 C2 H1 H2:G→Bool}(s1:Sub g H1)(s2:Sub g H2)(p1:per g H1 C1)(p2:per g H2 C2){c:G}(hc2:C2 c=true)(hc1:C1 c=false) :
 card g H1≤card g (fun x=>C2 x && !C1 x)+card g (fun x=>H1 x&&H2 x)∨card g H2≤card g (fun x=>C1 x && !C2 x)+card g (fun x=>H1 x&&H2 x)∨card g H2≤card g (fun x=>C2 x && !C1 x):=by
 have sL:=s1.and s2
 have hl:0<card g (fun x=>H1 x&&H2 x):=card_pos sL.zero
 have eR:card g (fun x=>H1 (g.add x (g.neg c))&&C2 x)+card g (fun x=>H1 (g.add x (g.neg c)) && !C2 x)=card g H1:=by
  rw[←card_split,card_shift (g:=g) H1 (g.neg c)]
 have eS:card g (fun x=>H2 (g.add x (g.neg c)) && !C1 x)+card g (fun x=>H2 (g.add x (g.neg c))&&C1 x)=card g H2:=by
  rw[Nat.add_comm,←card_split,card_shift (g:=g) H2 (g.neg c)]
 have keep:∀{H K:G→Bool} (sH:Sub g H) (hK:∀x,K x=true→H x=true),per g K (fun x=>H (g.add x (g.neg c))):=fun {H K} sH hK k hk x=>by
  have hk':=hK k hk
  have e:g.add (g.add x k) (g.neg c)=g.add (g.add x (g.neg c)) k:=by rw[g.assoc,g.comm k,←g.assoc]
  show H (g.add (g.add x k) (g.neg c))=H (g.add x (g.neg c))
  rw[e,Bool.eq_iff_iff]
  refine⟨fun h=>?_,fun h=>sH.add _ _ h hk'⟩
  have:=sH.sub h hk'
  rwa [g.add_sub] at this
 have kAnd:∀{K S T:G→Bool},per g K S→per g K T→per g K (fun x=>S x&&T x):=fun hS hT k hk x=>by
  show (_&&_)=(_&&_);rw[hS k hk,hT k hk]
 have kNot:∀{K S:G→Bool},per g K S→per g K (fun x=>!S x):=fun hS k hk x=>by show (!_)=(!_);rw[hS k hk]
 have w1:∀x,(H1 x&&H2 x)=true→H1 x=true:=fun x h=>by rw[Bool.and_eq_true] at h;exact h.1
 have w2:∀x,(H1 x&&H2 x)=true→H2 x=true:=fun x h=>by rw[Bool.and_eq_true] at h;exact h.2
 have l1:per g (fun x=>H1 x&&H2 x) C1:=fun k hk x=>p1 k (w1 k hk) x
 have l2:per g (fun x=>H1 x&&H2 x) C2:=fun k hk x=>p2 k (w2 k hk) x
 have hr:card g (fun x=>H1 x&&H2 x)≤card g (fun x=>H1 (g.add x (g.neg c))&&C2 x):=coset_le (kAnd (keep s1 w1) l2) (c:=c) (by show (H1 _&&C2 c)=true;rw[g.add_neg,s1.zero,hc2];rfl)
 have hs:card g (fun x=>H1 x&&H2 x)≤card g (fun x=>H2 (g.add x (g.neg c)) && !C1 x):=coset_le (kAnd (keep s2 w2) (kNot l1)) (c:=c) (by show (H2 _ && !C1 c)=true;rw[g.add_neg,s2.zero,hc1];rfl)
 have fib:∀(P Q:G→Bool) (t:G),card g (fun r=>(H1 (g.add r (g.neg c))&&P r)&&(H2 (g.add (g.add (g.add t (g.neg r)) c) (g.neg c))&&Q (g.add (g.add t (g.neg r)) c)))≤card g (fun x=>H1 x&&H2 x):=fun P Q t=>by
  rcases Nat.eq_zero_or_pos (card g (fun r=>(H1 (g.add r (g.neg c))&&P r)&&(H2 (g.add (g.add (g.add t (g.neg r)) c) (g.neg c))&&Q (g.add (g.add t (g.neg r)) c)))) with h0 | h0
  · omega
  · obtain⟨r0,h0⟩:=card_has h0
    rw[←card_shift (g:=g) (fun x=>H1 x&&H2 x) (g.neg r0)]
    apply card_le
    intro r h
    simp only[Bool.and_eq_true] at h h0 ⊢
    rw[g.add_sub] at h h0
    constructor
    · have q:=s1.sub h.1.1 h0.1.1
      have e:g.add (g.add r (g.neg c)) (g.neg (g.add r0 (g.neg c)))=g.add r (g.neg r0):=by rw[g.neg_sum,g.neg_neg,g.assoc,g.left_comm (g.neg c),g.neg_add,g.add_zero]
      rwa [e] at q
    · have q:=s2.sub h0.2.1 h.2.1
      have e:g.add (g.add t (g.neg r0)) (g.neg (g.add t (g.neg r)))=g.add r (g.neg r0):=by rw[g.neg_sum,g.neg_neg,g.assoc,g.left_comm (g.neg r0),←g.assoc,g.add_neg,g.zero_add,g.comm]
      rwa [e] at q
 have rc:∀r s,g.add (g.add r s) (g.neg c)=g.add s (g.add r (g.neg c)):=fun r s=>by rw[g.comm r s,g.assoc]
 have rc2:∀r s,g.add (g.add r s) (g.neg c)=g.add r (g.add s (g.neg c)):=fun r s=>g.assoc _ _ _
 have hp:=pairs_le (g:=g) (R:=fun x=>H1 (g.add x (g.neg c))&&C2 x) (S:=fun x=>H2 (g.add x (g.neg c)) && !C1 x) (T:=fun x=>C2 x && !C1 x) c (card g (fun x=>H1 x&&H2 x)) (fun r s h1 h2=>by
  simp only[Bool.and_eq_true] at h1 h2 ⊢
  refine⟨by rw[rc2,p2 _ h2.1];exact h1.2,by rw[rc,p1 _ h1.1];exact h2.2⟩) (fun t _=>fib C2 (fun x=>!C1 x) t)
 have hq:=pairs_le (g:=g) (R:=fun x=>H1 (g.add x (g.neg c)) && !C2 x) (S:=fun x=>H2 (g.add x (g.neg c))&&C1 x) (T:=fun x=>C1 x && !C2 x) c (card g (fun x=>H1 x&&H2 x)) (fun r s h1 h2=>by
  simp only[Bool.and_eq_true] at h1 h2 ⊢
  refine⟨by rw[rc,p1 _ h1.1];exact h2.2,by rw[rc2,p2 _ h2.1];exact h1.2⟩) (fun t _=>fib (fun x=>!C2 x) C1 t)
 have hr':card g (fun x=>H1 (g.add x (g.neg c)) && !C2 x)=0∨card g (fun x=>H1 x&&H2 x)≤card g (fun x=>H1 (g.add x (g.neg c)) && !C2 x):=by
  rcases Nat.eq_zero_or_pos (card g (fun x=>H1 (g.add x (g.neg c)) && !C2 x)) with h | h
  · exact Or.inl h
  · obtain⟨y,hy⟩:=card_has h;exact Or.inr (coset_le (kAnd (keep s1 w1) (kNot l2)) hy)
 have hs':card g (fun x=>H2 (g.add x (g.neg c))&&C1 x)=0∨card g (fun x=>H1 x&&H2 x)≤card g (fun x=>H2 (g.add x (g.neg c))&&C1 x):=by
  rcases Nat.eq_zero_or_pos (card g (fun x=>H2 (g.add x (g.neg c))&&C1 x)) with h | h
  · exact Or.inl h
  · obtain⟨y,hy⟩:=card_has h;exact Or.inr (coset_le (kAnd (keep s2 w2) l1) hy)
 generalize card g (fun x=>H1 x&&H2 x)=l at *
 generalize card g (fun x=>H1 (g.add x (g.neg c))&&C2 x)=r at *
 generalize card g (fun x=>H1 (g.add x (g.neg c)) && !C2 x)=r' at *
 generalize card g (fun x=>H2 (g.add x (g.neg c)) && !C1 x)=s at *
 generalize card g (fun x=>H2 (g.add x (g.neg c))&&C1 x)=s' at *
 generalize card g (fun x=>C2 x && !C1 x)=p at *
 generalize card g (fun x=>C1 x && !C2 x)=q at *
 generalize card g H1=h1 at *
 generalize card g H2=h2 at *
 rcases hs' with hs' | hs'
 · right;right
   have q1:s=h2:=by omega
   rw[q1] at hp
   have:l*h2≤p*l:=Nat.le_trans (Nat.mul_le_mul_right h2 hr) hp
   rw[Nat.mul_comm p l] at this
   exact Nat.le_of_mul_le_mul_left this hl
 · rcases hr' with hr' | hr'
   · left
     have q1:r=h1:=by omega
     rw[q1] at hp
     have:h1*l≤p*l:=Nat.le_trans (Nat.mul_le_mul_left h1 hs) hp
     have:=Nat.le_of_mul_le_mul_right this hl
     omega
   · rcases Nat.lt_or_ge (p+l) h1 with k1 | k1
     · rcases Nat.lt_or_ge (q+l) h2 with k2 | k2
       · exact (arith hl eR eS hr hs hr' hs' hp hq k1 k2).elim
       · right;left;exact k2
     · left;exact k1
def Good(g:Ab G)(C:G→Bool)(m:Nat):Prop:=∃H,Sub g H∧per g H C∧m≤card g C+card g H
theorem Good.congr{C D:G→Bool}{m:Nat}(h:Good g C m)(e:∀x,C x=D x):Good g D m:=by rw[←show C=D from funext e];exact h
theorem good_or{C1 C2:G→Bool}{m:Nat}(h1:Good g C1 m)(h2:Good g C2 m):Good g (fun x=>C1 x || C2 x) m:=by
 obtain⟨H1,s1,p1,m1⟩:=h1
 obtain⟨H2,s2,p2,m2⟩:=h2
 rcases Nat.eq_zero_or_pos (card g (fun x=>C2 x && !C1 x)) with z | z
 · refine Good.congr ⟨H1,s1,p1,m1⟩ fun x=>?_
   cases h:C1 x with
   | true=>rfl
   | false =>
    cases h2:C2 x with
    | false=>rfl
    | true=>have:=card_pos (g:=g) (S:=fun x=>C2 x && !C1 x) (x:=x) (by show (C2 x && !C1 x)=true;rw[h,h2];rfl);omega
 rcases Nat.eq_zero_or_pos (card g (fun x=>C1 x && !C2 x)) with z2 | z2
 · refine Good.congr ⟨H2,s2,p2,m2⟩ fun x=>?_
   cases h:C2 x with
   | true=>simp
   | false =>
    cases h2:C1 x with
    | false=>rfl
    | true=>have:=card_pos (g:=g) (S:=fun x=>C1 x && !C2 x) (x:=x) (by show (C1 x && !C2 x)=true;rw[h,h2];rfl);omega
 obtain⟨c,hc⟩:=card_has z
 obtain⟨d,hd⟩:=card_has z2
 simp only[Bool.and_eq_true,Bool.not_eq_true'] at hc hd
 have k1:=half s1 s2 p1 p2 hc.1 hc.2
 have k2:=half s2 s1 p2 p1 hd.1 hd.2
 have e:card g (fun x=>H2 x&&H1 x)=card g (fun x=>H1 x&&H2 x):=card_congr fun x=>Bool.and_comm _ _
 rw[e] at k2
 have o1:=card_or (g:=g) C1 C2
 have o2:card g (fun x=>C1 x || C2 x)=card g C2+card g (fun x=>C1 x && !C2 x):=by
  rw[←card_or];exact card_congr fun x=>Bool.or_comm _ _
 have hl:0<card g (fun x=>H1 x&&H2 x):=card_pos (s1.and s2).zero
 refine⟨fun x=>H1 x&&H2 x,s1.and s2,fun k hk x=>?_,by omega⟩
 rw[Bool.and_eq_true] at hk
 show (_ || _)=(_ || _)
 rw[p1 k hk.1,p2 k hk.2]
def sums(g:Ab G)(A B:G→Bool):G→Bool:=fun x=>g.els.any fun a=>A a&&B (g.add x (g.neg a))
theorem sums_iff{A B:G→Bool}{x:G}:sums g A B x=true↔∃a b,A a=true∧B b=true∧x=g.add a b:=by
 unfold sums
 rw[List.any_eq_true]
 constructor
 · rintro⟨a,-,h⟩
   rw[Bool.and_eq_true] at h
   exact⟨a,_,h.1,h.2,by rw[g.comm,g.sub_add]⟩
 · rintro⟨a,b,ha,hb,rfl⟩
   exact⟨a,g.all a,by rw[Bool.and_eq_true];exact⟨ha,by rw[g.comm a b,g.add_sub];exact hb⟩⟩
theorem one_good:∀(k:Nat) (A B:G→Bool),card g B=k→∀a0 b0,A a0=true→B b0=true→∃C,C (g.add a0 b0)=true∧(∀x,C x=true→sums g A B x=true)∧Good g C (card g A+card g B):=by
 intro k
 induction k using Nat.strongRecOn with
 | ind k ih =>
  intro A B hk a0 b0 ha0 hb0
  by_cases hall:∀a b,A a=true→B b=true→A (g.add (g.add a b) (g.neg b0))=true
  · have hst:∀h,(∀x,A x=true→A (g.add x h)=true)→∀x,A (g.add x h)=A x:=fun h hh x=>by
     rw[Bool.eq_iff_iff]
     refine⟨fun q=>?_,hh x⟩
     exact card_eq_of (g:=g) (S:=A) (T:=fun x=>A (g.add x h)) hh (Nat.le_of_eq (card_shift A h)) x q
    let H:G→Bool:=fun h=>g.els.all fun x=>A (g.add x h) == A x
    have hH:∀h,H h=true↔∀x,A (g.add x h)=A x:=fun h=>by
     show (g.els.all fun x=>A (g.add x h) == A x)=true↔_
     rw[List.all_eq_true]
     exact⟨fun q x=>by simpa using q x (g.all x),fun q x _=>by simpa using q x⟩
    refine⟨fun x=>A (g.add x (g.neg b0)),by show A _=true;rw[g.add_sub];exact ha0,fun x hx=>?_,H,⟨(hH _).2 fun x=>by rw[g.add_zero],fun x y hx hy=>(hH _).2 fun z=>by rw[←g.assoc,(hH y).1 hy,(hH x).1 hx],fun x hx=>(hH _).2 fun z=>?_⟩,fun h hh x=>?_,?_⟩
    · exact sums_iff.2 ⟨_,b0,hx,hb0,(g.sub_add x b0).symm⟩
    · rw[←(hH x).1 hx (g.add z (g.neg x)),g.sub_add]
    · show A _=A _
      rw[g.assoc,g.comm h,←g.assoc];exact (hH h).1 hh _
    · rw[card_shift (g:=g) A (g.neg b0)]
      have:card g B≤card g H:=by
       rw[←card_shift (g:=g) H (g.neg b0)]
       apply card_le
       intro b hb
       exact (hH _).2 (hst _ fun x hx=>by rw[←g.assoc];exact hall x b hx hb)
      omega
  · have:∃a b,A a=true∧B b=true∧A (g.add (g.add a b) (g.neg b0))=false:=by
     refine Classical.byContradiction fun hn=>hall fun a b ha hb=>?_
     cases hh:A (g.add (g.add a b) (g.neg b0)) with
     | true=>rfl
     | false=>exact (hn ⟨a,b,ha,hb,hh⟩).elim
    obtain⟨a,b,ha,hb,hab⟩:=this
    obtain⟨e,he⟩:∃e,e=g.add a (g.neg b0):=⟨_,rfl⟩
    have hbe:g.add b e=g.add (g.add a b) (g.neg b0):=by rw[he,←g.assoc,g.comm b a]
    have hb0e:g.add b0 e=a:=by rw[he,g.left_comm,g.add_neg,g.add_zero]
    have hcard:card g (fun x=>A x || B (g.add x (g.neg e)))+card g (fun x=>B x&&A (g.add x e))=card g A+card g B:=by
     rw[card_or]
     have h1:card g (fun x=>B x&&A (g.add x e))=card g (fun x=>B (g.add x (g.neg e))&&A x):=by
      rw[←card_shift (g:=g) (fun x=>B (g.add x (g.neg e))&&A x) e]
      apply card_congr;intro x;rw[g.add_sub]
     have h2:=card_split (g:=g) (fun x=>B (g.add x (g.neg e))) A
     have h3:=card_shift (g:=g) B (g.neg e)
     omega
    have hlt:card g (fun x=>B x&&A (g.add x e))<card g B:=by
     have h2:=card_split (g:=g) B (fun x=>A (g.add x e))
     have h3:0<card g (fun x=>B x && !A (g.add x e)):=card_pos (x:=b) (by rw[hb,hbe,hab];rfl)
     omega
    obtain⟨C,h1,h2,h3⟩:=ih _ (by omega) (fun x=>A x || B (g.add x (g.neg e))) (fun x=>B x&&A (g.add x e)) rfl a0 b0 (by rw[ha0];rfl) (by rw[hb0,hb0e,ha];rfl)
    refine⟨C,h1,fun x hx=>?_,by rw[hcard] at h3;exact h3⟩
    obtain⟨y,z,hy,hz,rfl⟩:=sums_iff.1 (h2 x hx)
    simp only[Bool.or_eq_true,Bool.and_eq_true] at hy hz
    rcases hy with hy | hy
    · exact sums_iff.2 ⟨y,z,hy,hz.1,rfl⟩
    · exact sums_iff.2 ⟨_,_,hz.2,hy,by rw[g.assoc,g.left_comm e,g.add_neg,g.add_zero,g.comm] ⟩
theorem kneser(A B:G→Bool){a0 b0:G}(ha:A a0=true)(hb:B b0=true):Good g (sums g A B) (card g A+card g B):=by
 have key:∀L:List G,(∀x∈L,sums g A B x=true)→∃C,(∀x∈L,C x=true)∧(∀x,C x=true→sums g A B x=true)∧Good g C (card g A+card g B):=by
  intro L
  induction L with
  | nil =>
   intro _
   obtain⟨C,h1,h2,h3⟩:=one_good _ A B rfl a0 b0 ha hb
   exact⟨C,by simp,h2,h3⟩
  | cons y L ih =>
   intro hL
   obtain⟨C,h1,h2,h3⟩:=ih fun x hx=>hL x (List.mem_cons_of_mem _ hx)
   obtain⟨a,b,ha',hb',rfl⟩:=sums_iff.1 (hL _ (List.mem_cons_self))
   obtain⟨D,k1,k2,k3⟩:=one_good _ A B rfl a b ha' hb'
   refine⟨fun x=>C x || D x,fun x hx=>?_,fun x hx=>?_,good_or h3 k3⟩
   · rw[List.mem_cons] at hx
     rcases hx with rfl | hx
     · show (_ || _)=true;rw[k1,Bool.or_true]
     · show (_ || _)=true;rw[h1 x hx];rfl
   · simp only[Bool.or_eq_true] at hx
     rcases hx with hx | hx
     · exact h2 x hx
     · exact k2 x hx
 obtain⟨C,h1,h2,h3⟩:=key (g.els.filter (sums g A B)) fun x hx=>(List.mem_filter.1 hx).2
 refine h3.congr fun x=>?_
 rw[Bool.eq_iff_iff]
 exact⟨h2 x,fun hx=>h1 x (List.mem_filter.2 ⟨g.all x,hx⟩)⟩
end Kn
end Go.Zz
