/-
  Plain facts on numbers, lists, bit sets and groups that are given by their orders. No program is named here.
-/
namespace Go.Zz
def nth(l:List Int)(i:Nat):Int:=l.getD i 0
def inB(x lo hi:Int):Bool:=decide (lo≤x)&&decide (x≤hi)
theorem inB_t{x lo hi:Int}:inB x lo hi=true↔lo≤x∧x≤hi:=by simp[inB]
theorem inB_f{x lo hi:Int}:inB x lo hi=false↔¬(lo≤x∧x≤hi):=by rw[←inB_t];simp
theorem nth_mem{l:List Int}{k:Nat}(h:k<l.length):nth l k∈l:=by
 unfold nth;rw[List.getD_eq_getElem?_getD,List.getElem?_eq_getElem h];exact List.getElem_mem h
theorem mem_nth{l:List Int}{x:Int}(h:x∈l):∃k,k<l.length∧nth l k=x:=by
 obtain⟨k,hk,rfl⟩:=List.getElem_of_mem h
 exact⟨k,hk,by simp[nth,List.getD,hk]⟩
theorem take_nth(l:List Int)(k:Nat)(h:k<l.length):l.take (k+1)=l.take k++[nth l k]:=by
 rw[List.take_succ_eq_append_getElem h];simp[nth,List.getD,h]
theorem drop_nth(l:List Int)(k:Nat)(h:k<l.length):l.drop k=nth l k :: l.drop (k+1):=by
 rw[List.drop_eq_getElem_cons h];simp[nth,List.getD,h]
theorem nth_get(l:List Int)(k:Nat)(h:k<l.length):nth l k=l[k]:=by simp[nth,List.getD,h]
theorem ext_nth{l m:List Int}(hl:l.length=m.length)(h:∀i,i<l.length→nth l i=nth m i):l=m:=by
 apply List.ext_getElem hl
 intro i h1 h2
 have:=h i h1
 rwa [nth_get _ _ h1,nth_get _ _ h2] at this
def prodL:List Int→Int
 | []=>1
 | o :: r=>o*prodL r
def isGrp(l:List Int):Bool:=decide (l.length≤3)&&l.all (fun x=>inB x 2 24)&&decide (prodL l≤24)
theorem prodL_append(l m:List Int):prodL (l++m)=prodL l*prodL m:=by
 induction l with
 | nil=>simp[prodL]
 | cons o r ih=>simp[prodL,ih,Int.mul_assoc]
theorem prodL_take(l:List Int)(k:Nat)(h:k<l.length):prodL (l.take (k+1))=prodL (l.take k)*nth l k:=by
 rw[take_nth l k h,prodL_append];simp[prodL]
theorem prodL_pos:∀(l:List Int),(∀x∈l,1≤x)→1≤prodL l
 | [],_=>by simp[prodL]
 | o :: r,h=>by
  have h1:=h o (by simp)
  have h2:=prodL_pos r (fun x hx=>h x (by simp[hx]))
  simp only[prodL]
  have:=Int.mul_le_mul h1 h2 (by omega) (by omega);omega
theorem prodL_bd:∀(k:Nat) (l:List Int),k≤l.length→(∀j,j<k→2≤nth l j∧nth l j≤24)→1≤prodL (l.take k)∧prodL (l.take k)≤24 ^ k
 | 0,l,_,_=>by simp[prodL]
 | k+1,l,h2,h3=>by
  have ih:=prodL_bd k l (by omega) (fun j hj=>h3 j (by omega))
  have hk:=h3 k (by omega)
  rw[prodL_take l k (by omega),Int.pow_succ]
  constructor
  · have:=Int.mul_le_mul ih.1 (by omega:(1:Int)≤nth l k) (by omega) (by omega);omega
  · exact Int.mul_le_mul ih.2 hk.2 (by omega) (by have:(0:Int)≤24 ^ k:=Int.pow_nonneg (by omega);omega)
theorem prodL_bd3(k:Nat)(l:List Int)(h:k≤l.length)(hk:k≤3)(hall:∀j,j<k→2≤nth l j∧nth l j≤24):1≤prodL (l.take k)∧prodL (l.take k)≤13824:=by
 have hp:=prodL_bd k l h hall
 have hp2:(24:Int)^k≤24^3:=by rcases (by omega:k=0∨k=1∨k=2∨k=3) with e | e | e | e<;>subst e<;>decide
 omega
theorem mul_fits{a b:Int}(h1:1≤a)(h2:a≤13824)(h3:2≤b)(h4:b≤24):0≤a*b∧a*b≤331776 :=
 ⟨Int.mul_nonneg (by omega) (by omega),by have:=Int.mul_le_mul h2 h4 (by omega) (by omega);omega⟩
theorem isGrp_iff(l:List Int):isGrp l=true↔l.length≤3∧(∀j,j<l.length→2≤nth l j∧nth l j≤24)∧prodL l≤24:=by
 simp only[isGrp,Bool.and_eq_true,decide_eq_true_eq,List.all_eq_true,inB_t,and_assoc]
 constructor
 · rintro⟨a,b,c⟩;exact⟨a,fun j hj=>b _ (nth_mem hj),c⟩
 · rintro⟨a,b,c⟩;exact⟨a,fun x hx=>by obtain⟨k,hk,rfl⟩:=mem_nth hx;exact b k hk,c⟩
theorem isGrp_len{l:List Int}(h:isGrp l=true):l.length≤3:=((isGrp_iff l).1 h).1
theorem isGrp_nth{l:List Int}(h:isGrp l=true){j:Nat}(hj:j<l.length):2≤nth l j∧nth l j≤24:=((isGrp_iff l).1 h).2.1 j hj
theorem isGrp_prod{l:List Int}(h:isGrp l=true):1≤prodL l∧prodL l≤24:=by
 obtain⟨a,b,c⟩:=(isGrp_iff l).1 h
 exact⟨prodL_pos l (fun x hx=>by obtain⟨k,hk,rfl⟩:=mem_nth hx;have:=b k hk;omega),c⟩
theorem isGrp_no_len{l:List Int}(h:3<l.length):isGrp l=false:=by
 rw[←Bool.not_eq_true,isGrp_iff];omega
theorem isGrp_no_nth{l:List Int}{j:Nat}(hj:j<l.length)(h:¬(2≤nth l j∧nth l j≤24)):isGrp l=false:=by
 rw[←Bool.not_eq_true,isGrp_iff];rintro⟨_,b,_⟩;exact h (b j hj)
theorem isGrp_end{l:List Int}(h:l.length≤3)(b:∀j,j<l.length→2≤nth l j∧nth l j≤24):isGrp l=decide (prodL l≤24):=by
 by_cases c:prodL l≤24
 · rw[(isGrp_iff l).2 ⟨h,b,c⟩];simp[c]
 · have:isGrp l=false:=by rw[←Bool.not_eq_true,isGrp_iff];rintro⟨_,_,d⟩;exact c d
   rw[this];simp[c]
def ordF(l:List Int):Int:=if isGrp l then prodL l else 0
def ord(l:List Int):Nat:=(prodL l).toNat
theorem ord_cast{l:List Int}(h:isGrp l=true):(ord l:Int)=prodL l:=by
 have:=isGrp_prod h;unfold ord;omega
theorem ord_bd{l:List Int}(h:isGrp l=true):1≤ord l∧ord l≤24:=by
 have:=isGrp_prod h;have:=ord_cast h;omega
theorem ordF_t{l:List Int}(h:isGrp l=true):ordF l=(ord l:Int):=by unfold ordF;rw[if_pos h,ord_cast h]
theorem ordF_f{l:List Int}(h:isGrp l=false):ordF l=0:=by unfold ordF;rw[h];rfl
theorem ordF_bd(l:List Int):0≤ordF l∧ordF l≤24:=by
 cases h:isGrp l
 · rw[ordF_f h];omega
 · rw[ordF_t h];have:=ord_bd h;omega
def pw(n:Nat):Nat:=2 ^ n
def shr(a n:Nat):Nat:=a >>> n
theorem pw_eq(n:Nat):pw n=2 ^ n:=rfl
theorem pw_pos(n:Nat):1≤pw n:=Nat.one_le_two_pow
theorem pw_le{n:Nat}(h:n≤24):pw n≤16777216:=Nat.pow_le_pow_right (n:=2) (by omega) h
theorem pw_int(n:Nat):(pw n:Int)=2 ^ n:=by unfold pw;simp
theorem shr_one(a:Nat):shr a 1=a / 2:=by unfold shr;rw[Nat.shiftRight_eq_div_pow]
theorem shr_le(a n:Nat):shr a n≤a:=by unfold shr;rw[Nat.shiftRight_eq_div_pow];exact Nat.div_le_self _ _
def elems(a:Nat):List Nat:=(List.range 24).filter (fun i=>a.testBit i)
def cnt(a:Nat):Nat:=(elems a).length
def bset(L:List Nat):Nat:=L.foldl (fun a z=>a ||| 2 ^ z) 0
theorem mem_elems{a x:Nat}:x∈elems a↔x<24∧a.testBit x=true:=by simp[elems]
theorem cnt_le(a:Nat):cnt a≤24:=by
 unfold cnt elems;exact Nat.le_trans (List.length_filter_le _ _) (by simp)
theorem elems_lt{a x:Nat}(h:x∈elems a):x<24:=(mem_elems.1 h).1
theorem bset_from(L:List Nat):∀a:Nat,∀i,(L.foldl (fun a z=>a ||| 2 ^ z) a).testBit i=(a.testBit i || decide (i∈L)):=by
 induction L with
 | nil=>intro a i;simp
 | cons z L ih =>
  intro a i
  rw[List.foldl_cons,ih,Nat.testBit_or,Nat.testBit_two_pow]
  by_cases h:z=i
  · subst h;simp
  · have h':¬i=z:=fun e=>h e.symm
    simp[h,h']
theorem testBit_bset(L:List Nat)(i:Nat):(bset L).testBit i=decide (i∈L):=by
 unfold bset;rw[bset_from];simp
theorem bset_snoc(L:List Nat)(z:Nat):bset (L++[z])=bset L ||| 2 ^ z:=by simp[bset]
theorem bset_lt{L:List Nat}{n:Nat}(h:∀x∈L,x<n):bset L<2 ^ n:=by
 apply Nat.lt_pow_two_of_testBit
 intro i hi
 rw[testBit_bset]
 simp only[decide_eq_false_iff_not]
 intro hm;have:=h i hm;omega
theorem testBit_ge{a n i:Nat}(h:a<2 ^ n)(hi:n≤i):a.testBit i=false :=
 Nat.testBit_lt_two_pow (Nat.lt_of_lt_of_le h (Nat.pow_le_pow_right (by omega) hi))
theorem bset_elems{a:Nat}(h:a<2 ^ 24):bset (elems a)=a:=by
 apply Nat.eq_of_testBit_eq
 intro i
 rw[testBit_bset]
 by_cases hi:i<24
 · cases hb:a.testBit i<;>simp[mem_elems,hi,hb]
 · rw[testBit_ge h (by omega)];simp[mem_elems,hi]
def elemsTo(a k:Nat):List Nat:=(List.range k).filter (fun i=>a.testBit i)
theorem elemsTo_succ(a k:Nat):elemsTo a (k+1)=elemsTo a k++if a.testBit k then [k] else []:=by
 unfold elemsTo
 rw[List.range_succ,List.filter_append]
 congr 1
 cases h:a.testBit k<;>simp[h]
theorem elemsTo_all{a k:Nat}(hk:k≤24)(h:a<2 ^ k):elemsTo a k=elems a:=by
 have key:∀d,elemsTo a (k+d)=elemsTo a k:=by
  intro d
  induction d with
  | zero=>rfl
  | succ d ih=>rw[←Nat.add_assoc,elemsTo_succ,ih,testBit_ge h (by omega)];simp
 have:=key (24 - k)
 rw[show k+(24 - k)=24 from by omega] at this
 exact this.symm
theorem elemsTo_len(a k:Nat):(elemsTo a k).length≤k:=by
 unfold elemsTo;exact Nat.le_trans (List.length_filter_le _ _) (by simp)
theorem shr_zero{a k:Nat}:shr a k=0↔a<2 ^ k:=by
 unfold shr
 rw[Nat.shiftRight_eq_div_pow,Nat.div_eq_zero_iff]
 constructor
 · rintro (h | h)
   · have:0<2 ^ k:=Nat.two_pow_pos k
     omega
   · exact h
 · intro h;exact .inr h
theorem shr_pos{a k:Nat}(h:¬shr a k=0)(ha:a<2 ^ 24):k<24:=by
 rw[shr_zero] at h
 rcases Nat.lt_or_ge k 24 with hk | hk
 · exact hk
 · exact absurd (Nat.lt_of_lt_of_le ha (Nat.pow_le_pow_right (by omega) hk)) h
theorem elemsTo_shift(a:Nat):∀n,elemsTo a (n+1)=(if a.testBit 0 then [0] else [])++(elemsTo (a / 2) n).map (· + 1)
 | 0=>by rw[elemsTo_succ];simp[elemsTo]
 | n+1=>by
  rw[elemsTo_succ,elemsTo_shift a n,elemsTo_succ,List.map_append,←List.append_assoc]
  congr 1
  rw[Nat.testBit_succ]
  cases (a / 2).testBit n<;>simp
theorem cntTo_half(a n:Nat):(elemsTo a (n+1)).length=a % 2+(elemsTo (a / 2) n).length:=by
 rw[elemsTo_shift,List.length_append,List.length_map]
 have:a.testBit 0=decide (a % 2=1):=Nat.testBit_zero a
 rw[this]
 by_cases h:a % 2=1
 · simp[h]
 · have:a % 2=0:=by omega
   simp[this]
theorem cntTo_drop:∀(n a:Nat),0<a→a<2 ^ n→(elemsTo (a &&& (a - 1)) n).length+1=(elemsTo a n).length
 | 0,a,h0,h1=>by simp at h1;omega
 | n+1,a,h0,h1=>by
  rw[cntTo_half,cntTo_half a]
  have hm:(a &&& (a - 1)) % 2=0:=by
   have:(a &&& (a - 1)).testBit 0=false:=by
    rw[Nat.testBit_and,Nat.testBit_zero,Nat.testBit_zero]
    by_cases h:a % 2=1
    · have:¬(a - 1) % 2=1:=by omega
      simp[this]
    · simp[h]
   rw[Nat.testBit_zero] at this
   have:=of_decide_eq_false this
   omega
  have hd:(a &&& (a - 1)) / 2=(a / 2) &&& ((a - 1) / 2):=by
   apply Nat.eq_of_testBit_eq
   intro i
   rw[←Nat.testBit_succ,Nat.testBit_and,Nat.testBit_and,Nat.testBit_succ,Nat.testBit_succ]
  rw[hm,hd]
  by_cases h:a % 2=1
  · have e:(a - 1) / 2=a / 2:=by omega
    rw[e,Nat.and_self,h]
    omega
  · have e:(a - 1) / 2=a / 2 - 1:=by omega
    have hp:2 ^ (n+1)=2 ^ n*2:=Nat.pow_succ 2 n
    have ih:=cntTo_drop n (a / 2) (by omega) (by omega)
    rw[e]
    omega
theorem cnt_drop{a:Nat}(h0:0<a)(h:a<2 ^ 24):cnt (a &&& (a - 1))+1=cnt a:=cntTo_drop 24 a h0 h
theorem cnt_zero:cnt 0=0:=by decide
theorem cnt_pos{a:Nat}(h0:0<a)(h:a<2 ^ 24):1≤cnt a:=by have:=cnt_drop h0 h;omega
theorem cnt_half(a:Nat)(h:a<2 ^ 24):cnt a=a % 2+cnt (a / 2):=by
 have h1:a / 2<2 ^ 23:=by have:(2:Nat) ^ 24=2 ^ 23*2:=by decide
                          omega
 have e:cnt (a / 2)=(elemsTo (a / 2) 23).length:=by
  rw[elemsTo_all (by omega) h1];rfl
 rw[e]
 exact cntTo_half a 23
def addF:List Int→Nat→Nat→Nat
 | [],_,_=>0
 | o :: r,x,y=>(x % o.toNat+y % o.toNat) % o.toNat+o.toNat*addF r (x / o.toNat) (y / o.toNat)
def negF:List Int→Nat→Nat
 | [],_=>0
 | o :: r,x=>(o.toNat - x % o.toNat) % o.toNat+o.toNat*negF r (x / o.toNat)
def Ords(l:List Int):Prop:=∀x∈l,1≤x
theorem isGrp_ords{l:List Int}(h:isGrp l=true):Ords l:=fun x hx=>by
 obtain⟨k,hk,rfl⟩:=mem_nth hx;have:=isGrp_nth h hk;omega
theorem Ords.tail{o:Int}{r:List Int}(h:Ords (o :: r)):Ords r:=fun x hx=>h x (by simp[hx])
theorem Ords.head{o:Int}{r:List Int}(h:Ords (o :: r)):1≤o.toNat:=by have:=h o (by simp);omega
theorem ord_cons{o:Int}{r:List Int}(h:Ords (o :: r)):ord (o :: r)=o.toNat*ord r:=by
 have h1:=h o (by simp)
 have h2:=prodL_pos r h.tail
 unfold ord
 simp only[prodL]
 rw[Int.toNat_mul (by omega) (by omega)]
theorem ord_nil:ord []=1:=rfl
theorem digits_lt{d o a m:Nat}(h1:d<o)(h2:a<m):d+o*a<o*m:=by
 have:o*(a+1)≤o*m:=Nat.mul_le_mul_left o h2
 rw[Nat.mul_add] at this;omega
theorem addF_lt:∀(l:List Int),Ords l→∀x y,addF l x y<ord l
 | [],_,x,y=>by simp[addF,ord_nil]
 | o :: r,h,x,y=>by
  rw[ord_cons h];simp only[addF]
  exact digits_lt (Nat.mod_lt _ (by have:=h.head;omega)) (addF_lt r h.tail _ _)
theorem negF_lt:∀(l:List Int),Ords l→∀x,negF l x<ord l
 | [],_,x=>by simp[negF,ord_nil]
 | o :: r,h,x=>by
  rw[ord_cons h];simp only[negF]
  exact digits_lt (Nat.mod_lt _ (by have:=h.head;omega)) (negF_lt r h.tail _)
theorem dig_mod{d o a:Nat}(h:d<o):(d+o*a) % o=d:=by rw[Nat.add_mul_mod_self_left];exact Nat.mod_eq_of_lt h
theorem dig_div{d o a:Nat}(h:d<o):(d+o*a) / o=a:=by
 rw[Nat.add_mul_div_left _ _ (by omega),Nat.div_eq_of_lt h];omega
theorem addF_comm:∀(l:List Int) (x y:Nat),addF l x y=addF l y x
 | [],_,_=>rfl
 | o :: r,x,y=>by simp only[addF];rw[addF_comm r,Nat.add_comm (x % _)]
theorem addF_assoc:∀(l:List Int),Ords l→∀x y z,addF l (addF l x y) z=addF l x (addF l y z)
 | [],_,_,_,_=>rfl
 | o :: r,h,x,y,z=>by
  have ho:=h.head
  simp only[addF]
  rw[dig_mod (Nat.mod_lt _ (by omega)),dig_div (Nat.mod_lt _ (by omega)),dig_mod (Nat.mod_lt _ (by omega)),dig_div (Nat.mod_lt _ (by omega)),addF_assoc r h.tail]
  congr 1
  simp only[Nat.mod_add_mod,Nat.add_mod_mod,Nat.add_assoc]
theorem addF_zero:∀(l:List Int),Ords l→∀x,x<ord l→addF l 0 x=x
 | [],_,x,h=>by simp[ord_nil] at h;simp[addF,h]
 | o :: r,h,x,hx=>by
  have ho:=h.head
  rw[ord_cons h] at hx
  have hd:x / o.toNat<ord r:=(Nat.div_lt_iff_lt_mul (by omega)).2 (by rw[Nat.mul_comm];exact hx)
  simp only[addF,Nat.zero_mod,Nat.zero_div,Nat.zero_add]
  rw[addF_zero r h.tail _ hd,Nat.mod_mod,Nat.mod_add_div]
theorem addF_neg:∀(l:List Int),Ords l→∀x,addF l x (negF l x)=0
 | [],_,_=>rfl
 | o :: r,h,x=>by
  have ho:=h.head
  simp only[addF,negF]
  rw[dig_mod (Nat.mod_lt _ (by omega)),dig_div (Nat.mod_lt _ (by omega)),addF_neg r h.tail]
  have hx:=Nat.mod_lt x (show 0<o.toNat by omega)
  by_cases h0:x % o.toNat=0
  · rw[h0];simp
  · rw[Nat.mod_eq_of_lt (show o.toNat - x % o.toNat<o.toNat by omega),show x % o.toNat+(o.toNat - x % o.toNat)=o.toNat by omega]
    simp
theorem addF_cancel{l:List Int}(h:Ords l){x y z:Nat}(hy:y<ord l)(hz:z<ord l)(e:addF l x y=addF l x z):y=z:=by
 have:addF l (negF l x) (addF l x y)=addF l (negF l x) (addF l x z):=by rw[e]
 rw[←addF_assoc l h,←addF_assoc l h,addF_comm l (negF l x) x,addF_neg l h,addF_zero l h _ hy,addF_zero l h _ hz] at this
 exact this
def shiftF(l:List Int)(a x:Nat):Nat:=bset ((elems a).map (fun y=>addF l x y))
def sumF(l:List Int)(a b:Nat):Nat:=bset ((elems a).flatMap (fun x=>(elems b).map (fun y=>addF l x y)))
def oppF(l:List Int)(a:Nat):Nat:=bset ((elems a).map (fun x=>negF l x))
theorem testBit_shiftF{l:List Int}{a x z:Nat}:(shiftF l a x).testBit z=true↔∃y,y<24∧a.testBit y=true∧addF l x y=z:=by
 simp[shiftF,testBit_bset,mem_elems,and_assoc]
theorem testBit_sumF{l:List Int}{a b z:Nat}:(sumF l a b).testBit z=true↔∃x y,x<24∧a.testBit x=true∧y<24∧b.testBit y=true∧addF l x y=z:=by
 simp only[sumF,testBit_bset,decide_eq_true_eq,List.mem_flatMap,List.mem_map,mem_elems]
 constructor
 · rintro⟨x,⟨h1,h2⟩,y,⟨h3,h4⟩,h5⟩;exact⟨x,y,h1,h2,h3,h4,h5⟩
 · rintro⟨x,y,h1,h2,h3,h4,h5⟩;exact⟨x,⟨h1,h2⟩,y,⟨h3,h4⟩,h5⟩
theorem shiftF_lt{l:List Int}(h:Ords l)(a x:Nat):shiftF l a x<2 ^ ord l:=by
 apply bset_lt;intro z hz;simp at hz;obtain⟨y,_,rfl⟩:=hz;exact addF_lt l h _ _
theorem sumF_lt{l:List Int}(h:Ords l)(a b:Nat):sumF l a b<2 ^ ord l:=by
 apply bset_lt;intro z hz;simp at hz;obtain⟨x,_,y,_,rfl⟩:=hz;exact addF_lt l h _ _
theorem oppF_lt{l:List Int}(h:Ords l)(a:Nat):oppF l a<2 ^ ord l:=by
 apply bset_lt;intro z hz;simp at hz;obtain⟨x,_,rfl⟩:=hz;exact negF_lt l h _
theorem bool_eq_of{a b:Bool}(h:a=true↔b=true):a=b:=by cases a<;>cases b<;>simp_all
theorem sumF_comm(l:List Int)(a b:Nat):sumF l a b=sumF l b a:=by
 apply Nat.eq_of_testBit_eq
 intro z
 apply bool_eq_of
 rw[testBit_sumF,testBit_sumF]
 constructor<;>rintro⟨x,y,h1,h2,h3,h4,h5⟩<;>exact⟨y,x,h3,h4,h1,h2,by rw[addF_comm];exact h5⟩
def isSetB(l:List Int)(a:Int):Bool:=isGrp l&&decide (0≤a)&&decide (a<2 ^ ord l)
theorem isSetB_grp{l:List Int}{a:Int}(h:isSetB l a=true):isGrp l=true:=by
 simp[isSetB] at h;exact h.1.1
theorem pow_ord{l:List Int}(h:isGrp l=true):2 ^ ord l≤2 ^ 24:=Nat.pow_le_pow_right (by omega) (ord_bd h).2
theorem isSetB_nat{l:List Int}{a:Int}(h:isSetB l a=true):∃n:Nat,a=n∧n<2 ^ ord l∧n<2 ^ 24∧isGrp l=true:=by
 simp[isSetB] at h
 obtain⟨⟨h1,h2⟩,h3⟩:=h
 obtain⟨n,rfl⟩:=Int.eq_ofNat_of_zero_le h2
 have h4:n<2 ^ ord l:=by exact_mod_cast h3
 exact⟨n,rfl,h4,Nat.lt_of_lt_of_le h4 (pow_ord h1),h1⟩
def castL(L:List Nat):List Int:=L.map (fun n:Nat=>(n:Int))
def nthN(L:List Nat)(k:Nat):Nat:=L.getD k 0
theorem castL_len(L:List Nat):(castL L).length=L.length:=by simp[castL]
theorem castL_snoc(L:List Nat)(n:Nat):castL (L++[n])=castL L++[(n:Int)]:=by simp[castL]
theorem nth_castL(L:List Nat)(k:Nat):nth (castL L) k=(nthN L k:Int):=by
 unfold nth castL nthN
 rw[List.getD_eq_getElem?_getD,List.getD_eq_getElem?_getD,List.getElem?_map]
 cases L[k]?<;>simp
theorem nthN_mem{L:List Nat}{k:Nat}(h:k<L.length):nthN L k∈L:=by
 unfold nthN;rw[List.getD_eq_getElem?_getD,List.getElem?_eq_getElem h];exact List.getElem_mem h
theorem take_nthN(L:List Nat)(k:Nat)(h:k<L.length):L.take (k+1)=L.take k++[nthN L k]:=by
 rw[List.take_succ_eq_append_getElem h];simp[nthN,List.getD,h]
theorem bset_append(A B:List Nat):bset (A++B)=bset A ||| bset B:=by
 apply Nat.eq_of_testBit_eq
 intro i
 rw[Nat.testBit_or,testBit_bset,testBit_bset,testBit_bset]
 by_cases h:i∈A<;>by_cases h2:i∈B<;>simp[h,h2]
theorem shr_shr(a k:Nat):shr (shr a k) 1=shr a (k+1):=by unfold shr;rw[Nat.shiftRight_add]
theorem addF_bd{l:List Int}(h:isGrp l=true)(x y:Nat):addF l x y<24:=Nat.lt_of_lt_of_le (addF_lt l (isGrp_ords h) x y) (ord_bd h).2
theorem shiftF_bd{l:List Int}(h:isGrp l=true)(a x:Nat):shiftF l a x<2 ^ 24:=Nat.lt_of_lt_of_le (shiftF_lt (isGrp_ords h) a x) (pow_ord h)
theorem sumF_bd{l:List Int}(h:isGrp l=true)(a b:Nat):sumF l a b<2 ^ 24:=Nat.lt_of_lt_of_le (sumF_lt (isGrp_ords h) a b) (pow_ord h)
theorem oppF_bd{l:List Int}(h:isGrp l=true)(a:Nat):oppF l a<2 ^ 24:=Nat.lt_of_lt_of_le (oppF_lt (isGrp_ords h) a) (pow_ord h)
theorem elems_len(a:Nat):(elems a).length≤24:=cnt_le a
def sumTo(l:List Int)(L:List Nat)(b:Nat):Nat:=bset (L.flatMap (fun x=>(elems b).map (fun y=>addF l x y)))
theorem sumTo_snoc(l:List Int)(L:List Nat)(x b:Nat):sumTo l (L++[x]) b=sumTo l L b ||| shiftF l b x:=by
 unfold sumTo shiftF;rw[List.flatMap_append,bset_append];simp
theorem sumTo_all(l:List Int)(a b:Nat):sumTo l (elems a) b=sumF l a b:=rfl
theorem sumTo_bd{l:List Int}(h:isGrp l=true)(L:List Nat)(b:Nat):sumTo l L b<2 ^ 24:=by
 apply Nat.lt_of_lt_of_le _ (pow_ord h)
 apply bset_lt;intro z hz;simp at hz;obtain⟨x,_,y,_,rfl⟩:=hz;exact addF_lt l (isGrp_ords h) _ _
def areF(l:List Int)(as:List Int):Bool:=as.all (isSetB l)&&isGrp l
theorem addF_step{l:List Int}{k:Nat}(h:k<l.length){q:Nat}(hq:nth l k=(q:Int))(x y:Nat) :
 addF (l.drop k) x y=(x % q+y % q) % q+q*addF (l.drop (k+1)) (x / q) (y / q):=by
 rw[drop_nth l k h,hq];simp[addF]
end Go.Zz
namespace Go.Zz
def eqAt(c:List Int)(x:Nat):Bool:=(nth c (x - 1) == nth c (c.length - 1))&&(nth c (c.length - x - 1) == nth c (c.length - 1))
def badTo(c:List Int)(k:Nat):Bool:=(List.range k).any (fun j=>decide (2*(j+1)≤c.length)&&eqAt c (j+1))
def badF(c:List Int):Bool:=badTo c c.length
theorem badF_yes{c:List Int}{x:Nat}(h1:1≤x)(h2:2*x≤c.length)(h:eqAt c x=true):badF c=true:=by
 unfold badF badTo
 rw[List.any_eq_true]
 refine⟨x - 1,List.mem_range.2 (by omega),?_⟩
 rw[show x - 1+1=x from by omega,h];simpa using h2
theorem badF_no{c:List Int}{n:Nat}(hn:c.length<2*n)(h:∀x,1≤x→x<n→eqAt c x=false):badF c=false:=by
 unfold badF badTo
 rw[List.any_eq_false]
 intro j hj
 by_cases h2:2*(j+1)≤c.length
 · rw[h (j+1) (by omega) (by omega)];simp
 · simp[h2]
theorem eqAt_no1{c:List Int}{x:Nat}(h:(nth c (x - 1) == nth c (c.length - 1))=false):eqAt c x=false:=by unfold eqAt;rw[h];rfl
theorem eqAt_yes1{c:List Int}{x:Nat}(h:(nth c (x - 1) == nth c (c.length - 1))=true):eqAt c x=(nth c (c.length - x - 1) == nth c (c.length - 1)):=by unfold eqAt;rw[h];rfl
def colT:Nat→Nat→List Int→Nat→Bool
 | 0,_,_,_=>false
 | f+1,k,c,u=>(List.range (min k (u+1))).all (fun (x:Nat)=>badF (c++[(x:Int)]) || colT f k (c++[(x:Int)]) (max u (x+1)))
theorem colT_next{f k u x:Nat}{c:List Int}(h:colT (f+1) k c u=true)(hx:x<k)(hu:x≤u)(hb:badF (c++[(x:Int)])=false):colT f k (c++[(x:Int)]) (max u (x+1))=true:=by
 unfold colT at h
 have:=List.all_eq_true.1 h x (List.mem_range.2 (by omega))
 rw[hb] at this
 simpa using this
def colS:Nat→Nat→List Int→Nat→List Int
 | 0,_,c,_=>c
 | f+1,k,c,u=>(List.range (min k (u+1))).foldl (fun (b:List Int) (x:Nat)=>if badF (c++[(x:Int)]) then b else if b.length<(colS f k (c++[(x:Int)]) (max u (x+1))).length then colS f k (c++[(x:Int)]) (max u (x+1)) else b) c
def colSto(f k:Nat)(c:List Int)(u n:Nat):List Int:=(List.range n).foldl (fun (b:List Int) (x:Nat)=>if badF (c++[(x:Int)]) then b else if b.length<(colS f k (c++[(x:Int)]) (max u (x+1))).length then colS f k (c++[(x:Int)]) (max u (x+1)) else b) c
theorem colS_succ(f k:Nat)(c:List Int)(u:Nat):colS (f+1) k c u=colSto f k c u (min k (u+1)):=rfl
theorem colSto_bad{f k u n:Nat}{c:List Int}(h:badF (c++[(n:Int)])=true):colSto f k c u (n+1)=colSto f k c u n:=by
 unfold colSto;rw[List.range_succ,List.foldl_append];simp only[List.foldl_cons,List.foldl_nil];rw[h];rfl
theorem colSto_more{f k u n:Nat}{c:List Int}(h:badF (c++[(n:Int)])=false)(hl:(colSto f k c u n).length<(colS f k (c++[(n:Int)]) (max u (n+1))).length):colSto f k c u (n+1)=colS f k (c++[(n:Int)]) (max u (n+1)):=by
 unfold colSto at hl ⊢;rw[List.range_succ,List.foldl_append];simp only[List.foldl_cons,List.foldl_nil];rw[h,if_pos hl];rfl
theorem colSto_less{f k u n:Nat}{c:List Int}(h:badF (c++[(n:Int)])=false)(hl:¬(colSto f k c u n).length<(colS f k (c++[(n:Int)]) (max u (n+1))).length):colSto f k c u (n+1)=colSto f k c u n:=by
 unfold colSto at hl ⊢;rw[List.range_succ,List.foldl_append];simp only[List.foldl_cons,List.foldl_nil];rw[h,if_neg hl];rfl
def colI:Nat→Nat→List Int→Nat→List Int→List Int
 | 0,_,_,_,b=>b
 | f+1,k,c,u,b=>(List.range (min k (u+1))).foldl (fun (b:List Int) (x:Nat)=>if badF (c++[(x:Int)]) then b else colI f k (c++[(x:Int)]) (max u (x+1)) b) (if b.length<c.length then c else b)
def colIto(f k:Nat)(c:List Int)(u:Nat)(b:List Int)(n:Nat):List Int:=(List.range n).foldl (fun (b:List Int) (x:Nat)=>if badF (c++[(x:Int)]) then b else colI f k (c++[(x:Int)]) (max u (x+1)) b) (if b.length<c.length then c else b)
theorem colI_succ(f k:Nat)(c:List Int)(u:Nat)(b:List Int):colI (f+1) k c u b=colIto f k c u b (min k (u+1)):=rfl
theorem colIto_zero_t{f k u:Nat}{c b:List Int}(h:b.length<c.length):colIto f k c u b 0=c:=by unfold colIto;simp[h]
theorem colIto_zero_f{f k u:Nat}{c b:List Int}(h:¬b.length<c.length):colIto f k c u b 0=b:=by unfold colIto;simp[h]
theorem colIto_bad{f k u n:Nat}{c b:List Int}(h:badF (c++[(n:Int)])=true):colIto f k c u b (n+1)=colIto f k c u b n:=by
 unfold colIto;rw[List.range_succ,List.foldl_append];simp only[List.foldl_cons,List.foldl_nil];rw[h];rfl
theorem colIto_next{f k u n:Nat}{c b:List Int}(h:badF (c++[(n:Int)])=false):colIto f k c u b (n+1)=colI f k (c++[(n:Int)]) (max u (n+1)) (colIto f k c u b n):=by
 unfold colIto;rw[List.range_succ,List.foldl_append];simp only[List.foldl_cons,List.foldl_nil];rw[h];rfl
def colF(k:Int):List Int:=if inB k 1 3 then colS 15 k.toNat [] 0 else []
theorem colF_no{k:Int}(h:inB k 1 3=false):colF k=[]:=by unfold colF;rw[h];rfl
theorem colF_nat{k:Nat}(h:inB k 1 3=true):colF k=colS 15 k [] 0:=by unfold colF;rw[h];rfl
theorem colT_all{k:Nat}(h1:1≤k)(h3:k≤3):colT 15 k [] 0=true:=by
 rcases (by omega:k=1∨k=2∨k=3) with rfl | rfl | rfl<;>decide +kernel
theorem colI_all{k:Nat}(h1:1≤k)(h3:k≤3):colI 15 k [] 0 []=colS 15 k [] 0:=by
 rcases (by omega:k=1∨k=2∨k=3) with rfl | rfl | rfl<;>decide +kernel
end Go.Zz
