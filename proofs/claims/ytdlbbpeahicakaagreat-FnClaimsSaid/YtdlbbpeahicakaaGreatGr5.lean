/- Kept counts that are made new. -/
import Derived.Test.YtdlbbpeahicakaaGreatGr4
import Derived.Test.YtdlbbpeahicakaaGreatGr3
namespace Go.Zz
open Go.RowKit Go.Proofs
set_option maxHeartbeats 1000000
set_option maxRecDepth 20000
def OwnK2(w0 w:World)(c:Value)(l:List Int)(n:Int)(m:List Int):Prop :=
 ∃v u,c=.agg #[v,.int .i64 n,u]∧Own 3 w0 w v l∧Own 3 w0 w u m∧(v.ownBlock=none∨v.ownBlock≠u.ownBlock)
theorem OwnK2.mono{w0 w1 w:World}{c:Value}{l m:List Int}{n:Int}(h:OwnK2 w1 w c l n m)(hE:Ext w0 w1):OwnK2 w0 w c l n m:=by
 obtain⟨v,u,rfl,h1,h2,h3⟩:=h;exact⟨v,u,rfl,h1.mono hE,h2.mono hE,h3⟩
theorem OwnK2.ext{w0 w w':World}{c:Value}{l m:List Int}{n:Int}(h:OwnK2 w0 w c l n m)(hE:Ext w w'):OwnK2 w0 w' c l n m:=by
 obtain⟨v,u,rfl,h1,h2,h3⟩:=h;exact⟨v,u,rfl,h1.ext hE,h2.ext hE,h3⟩
theorem copyInts_any(v:Value)(l:List Int)(w:World)(h:Ints w v l) :
 Calls Tryz.prog 86 #[v] w fun e w'=>∃v',e=.returned v'∧Own 3 w w' v' l∧Ext w w':=by
 have hO:=own_made (TI:=3) (n:=0) (by omega) (Ext.refl w) [] rfl
 have hE:=(Ext.refl w).alloc (.cells #[] 3)
 have hI:=h.ext hE
 obtain⟨ao,c,rfl,hc,hlen,-⟩:=h
 go_enter Tryz.func86,Tryz.ntmps86
 go_wp2_with (at_builtin;refine wp_appends slI rfl _ _ rfl w _ _ _ _ _ hO hI hE (by simpa using hlen) rfl rfl ?_;intro v1 w1 hO1 hE1)
 go_ret
 exact⟨_,rfl,by simpa using hO1,hE1⟩
end Go.Zz
namespace Go.Zz
open Go.RowKit Go.Proofs
set_option maxHeartbeats 400000
theorem Blk.grown{w w':World}{b:Nat}{T:TypeId}{cs:Array Value}{row:Option Nat}(h:Blk w b T cs)(hg:w.grownBy w' row)(hne:∀k,row=some k→k≠b):Blk w' b T cs:=by
 unfold Blk
 rw[hg.block b h.lt (by
  cases row with
  | none=>simp
  | some k=>simp;exact fun e=>hne k rfl (by first | exact e | exact e.symm))]
 exact h
theorem OwnK2.kept{w0 w w':World}{c:Value}{l m:List Int}{n:Int}{row:Option Nat}(h:OwnK2 w0 w c l n m)(hg:w.grownBy w' row)(hr:∀k,row=some k→k<w0.heap.size):OwnK2 w0 w' c l n m:=by
 obtain⟨v,u,rfl,hv,hu,hd⟩:=h
 have key:∀{x:Value} {ll:List Int},Own 3 w0 w x ll→Own 3 w0 w' x ll:=fun {x ll} hx=>hx.kept hg (by
  cases hq:x.ownBlock with
  | none=>exact Or.inl rfl
  | some k=>exact Or.inr fun e=>by have:=hr k e.symm;have:=(hx.blk k hq).1;omega)
 exact⟨v,u,rfl,key hv,key hu,hd⟩
end Go.Zz
namespace Go.Zz
open Go.RowKit Go.Proofs
set_option maxHeartbeats 2000000
def Apart(x y:Value):Prop:=∀k,x.ownBlock=some k→y.ownBlock≠some k
theorem Apart.symm{x y:Value}(h:Apart x y):Apart y x:=fun k hk e=>h k e hk
theorem Apart.or{x y:Value}(h:Apart x y):x.ownBlock=none∨x.ownBlock≠y.ownBlock:=by
 cases hx:x.ownBlock with
 | none=>exact Or.inl rfl
 | some k=>exact Or.inr fun e=>h k hx e.symm
theorem Apart.nil_left(y:Value):Apart (.slice none 0 0) y:=fun k hk=>by cases hk
theorem Apart.nil_right(x:Value):Apart x (.slice none 0 0):=fun k _ h=>by cases h
theorem apart_of{TI:TypeId}{a b c d:World}{u v:Value}{l m:List Int}(h:Own TI a b u l)(k:Own TI c d v m)(hs:b.heap.size≤c.heap.size):Apart u v:=fun i hi e=>by
 have h1:=(h.blk i hi).2
 have h2:=(k.blk i e).1
 omega
structure Own4(w0 w:World)(v1 v2 v3 v4:Value)(g o t q:List Int):Prop where
 h1:Own 3 w0 w v1 g
 h2:Own 3 w0 w v2 o
 h3:Own 3 w0 w v3 t
 h4:Own 3 w0 w v4 q
 d12:Apart v1 v2
 d13:Apart v1 v3
 d14:Apart v1 v4
 d23:Apart v2 v3
 d24:Apart v2 v4
 d34:Apart v3 v4
theorem Own4.ext{w0 w w':World}{v1 v2 v3 v4:Value}{g o t q:List Int}(h:Own4 w0 w v1 v2 v3 v4 g o t q)(hE:Ext w w'):Own4 w0 w' v1 v2 v3 v4 g o t q :=
 ⟨h.h1.ext hE,h.h2.ext hE,h.h3.ext hE,h.h4.ext hE,h.d12,h.d13,h.d14,h.d23,h.d24,h.d34⟩
theorem Own4.mono{w0 w1 w:World}{v1 v2 v3 v4:Value}{g o t q:List Int}(h:Own4 w1 w v1 v2 v3 v4 g o t q)(hE:Ext w0 w1):Own4 w0 w v1 v2 v3 v4 g o t q :=
 ⟨h.h1.mono hE,h.h2.mono hE,h.h3.mono hE,h.h4.mono hE,h.d12,h.d13,h.d14,h.d23,h.d24,h.d34⟩
structure Ints4(w:World)(v1 v2 v3 v4:Value)(g o t q:List Int):Prop where
 g:Ints w v1 g
 o:Ints w v2 o
 t:Ints w v3 t
 q:Ints w v4 q
theorem Ints4.ext{w w':World}{v1 v2 v3 v4:Value}{g o t q:List Int}(h:Ints4 w v1 v2 v3 v4 g o t q)(hE:Ext w w'):Ints4 w' v1 v2 v3 v4 g o t q :=
 ⟨h.g.ext hE,h.o.ext hE,h.t.ext hE,h.q.ext hE⟩
theorem Own4.ints{w0 w:World}{v1 v2 v3 v4:Value}{g o t q:List Int}(h:Own4 w0 w v1 v2 v3 v4 g o t q):Ints4 w v1 v2 v3 v4 g o t q:=⟨h.h1.ints,h.h2.ints,h.h3.ints,h.h4.ints⟩
theorem Own.kept_low{TI:TypeId}{w0 w w':World}{v:Value}{l:List Int}{row:Option Nat}(h:Own TI w0 w v l)(hg:w.grownBy w' row)(hr:∀k,row=some k→k<w0.heap.size):Own TI w0 w' v l :=
 h.kept hg (by
  cases hq:v.ownBlock with
  | none=>exact Or.inl rfl
  | some k=>exact Or.inr fun e=>by have:=hr k e.symm;have:=(h.blk k hq).1;omega)
theorem Own4.kept{w0 w w':World}{v1 v2 v3 v4:Value}{g o t q:List Int}{row:Option Nat}(h:Own4 w0 w v1 v2 v3 v4 g o t q)(hg:w.grownBy w' row)(hr:∀k,row=some k→k<w0.heap.size):Own4 w0 w' v1 v2 v3 v4 g o t q :=
 ⟨h.h1.kept_low hg hr,h.h2.kept_low hg hr,h.h3.kept_low hg hr,h.h4.kept_low hg hr,h.d12,h.d13,h.d14,h.d23,h.d24,h.d34⟩
def CV(k:Int)(v1 v2:Value)(a b s p:Int)(v3 v4:Value)(n:Int):Value:=.agg #[.int .i64 k,v1,v2,.int .i64 a,.int .i64 b,.int .i64 s,.int .i64 p,v3,v4,.int .i64 n]
end Go.Zz
namespace Go.Zz
open Go.RowKit Go.Proofs
set_option maxHeartbeats 400000
theorem neg_val{x q s u:Nat}(hs:s<24)(hq:2≤q)(hm:((q - x % q) % q)*u≤331776) :
 Value.int .i64 (wrap64 ((s:Int)+wrap64 ((((q:Int) - (x:Int) % (q:Int)) % (q:Int))*(u:Int))))=.int .i64 ((s+((q - x % q) % q)*u:Nat):Int):=by
 have h1:=Nat.mod_lt x (show 0<q by omega)
 have e1:(q:Int) - (x:Int) % (q:Int)=((q - x % q:Nat):Int):=by rw[←Int.natCast_emod];omega
 have e2:(((q - x % q:Nat):Int) % (q:Int))*(u:Int)=((((q - x % q) % q)*u:Nat):Int):=by rw[Int.natCast_mul,Int.natCast_emod]
 rw[e1,e2]
 generalize ((q - x % q) % q)*u=d at hm ⊢
 rw[wrapN d (by omega),←Int.natCast_add,wrapN (s+d) (by omega)]
theorem negate_any(v:Value)(l:List Int)(x:Nat)(w:World)(h:Ints w v l)(Hgr:Hid (isGrp l=true))(hx:x<16777216) :
 Calls Tryz.prog 197 #[.agg #[v],.int .i64 x] w fun e w'=>e=.returned (.int .i64 (negF l x))∧Ext w w':=by
 obtain⟨ao,c,adr,rfl,hlen,hadr,hcell⟩:=h.op
 have hix:=ints_index (c:=c) elI szI hadr
 clear hadr h
 obtain⟨wb,hwb⟩:∃wb,wb=w.alloc (.cells #[.slice ao l.length c] 27):=⟨_,rfl⟩
 have hE0:=(Ext.refl w).alloc (.cells #[.slice ao l.length c] 27)
 have hb:=box_cell w (.slice ao l.length c) 27
 rw[←hwb] at hE0 hb
 have hE:=Ext.refl wb
 have Hwb:=Lib.hid hwb
 have hA:=negF_bd Hgr.out x
 have h3:=isGrp_len Hgr.out
 clear hwb
 go_enter Tryz.func197,Tryz.ntmps197
 go_wp2_with fail
 rw[←Hwb.out]
 go_loopw [1,5,6,12] (fun xv sv uv i wr=>∃k x' s u:Nat,k≤l.length∧x'≤x∧s+u*negF (l.drop k) x'=negF l x∧(u:Int)=prodL (l.take k)∧xv=.int .i64 x'∧sv=.int .i64 s∧uv=.int .i64 u∧i=.int .i64 k∧Ext wb wr) (fun _ _ _ i _=>l.length - (intOf i).toNat)
 case atStart=>exact⟨0,x,0,1,by omega,by omega,by simp,by simp[prodL],rfl,rfl,rfl,rfl,hE⟩
 case round =>
  clear hE
  obtain⟨k,x',s,u,hk,hx',hs,hu,rfl,rfl,rfl,rfl,hE⟩:=hrel
  have hbx:=hb wr hE
  have hsb:=add_inv hs hA
  obtain⟨hu1,hu2⟩:=prodL_bd3 k l hk (by omega) (fun j hj=>isGrp_nth Hgr.out (by omega))
  rw[←hu] at hu1 hu2
  have Hs:=Lib.hid hs
  have Hu:=Lib.hid hu
  clear hs hu hA
  by_cases hlt:k<l.length
  · have hck:=hcell k _ hlt (hE0.trans hE)
    obtain⟨hq1,hq2⟩:=isGrp_nth Hgr.out hlt
    obtain⟨q,hq⟩:=Int.eq_ofNat_of_zero_le (show 0≤nth l k by omega)
    have Hst:=Lib.hid (negF_step hlt hq x')
    have Hu2:Hid (nth l k*prodL (l.take k)=prodL (l.take (k+1))):=Lib.hid (by rw[prodL_take l k hlt,Int.mul_comm])
    rw[hq] at hq1 hq2
    have Hq:=Lib.hid hq
    have hd:(q - x' % q) % q<24:=Nat.lt_of_lt_of_le (Nat.mod_lt _ (by omega)) (by omega)
    have hm1:((q - x' % q) % q)*u≤24*13824:=Nat.mul_le_mul (by omega) (by omega)
    have hm2:u*q≤13824*24:=Nat.mul_le_mul (by omega) (by omega)
    have h1:=Nat.mod_lt x' (show 0<q by omega)
    have c1:(q:Int) - (x':Int) % (q:Int)=((q - x' % q:Nat):Int):=by rw[←Int.natCast_emod];omega
    have c2:(((q:Int) - (x':Int) % (q:Int)) % (q:Int))*(u:Int)=((((q - x' % q) % q)*u:Nat):Int):=by rw[c1,Int.natCast_mul,Int.natCast_emod]
    have c3:((u*q:Nat):Int)=(u:Int)*(q:Int):=Int.natCast_mul _ _
    have b1:(x':Int) % (q:Int)<24:=by have:=Int.emod_lt_of_pos (x':Int) (show (0:Int)<q by omega);omega
    have b3:0≤(x':Int) % (q:Int):=Int.emod_nonneg _ (by omega)
    have b2:0≤(q:Int) - (x':Int) % (q:Int):=by have:=Int.emod_lt_of_pos (x':Int) (show (0:Int)<q by omega);omega
    have b5:(((q:Int) - (x':Int) % (q:Int)) % (q:Int))*(u:Int)≤331776:=by rw[c2];omega
    have b6:0≤(((q:Int) - (x':Int) % (q:Int)) % (q:Int))*(u:Int):=by rw[c2];omega
    have b7:(u:Int)*(q:Int)≤331776:=by rw[←c3];omega
    have b8:0≤(u:Int)*(q:Int):=by rw[←c3];omega
    have Hm1:=Lib.hid hm1
    clear c1 c2 c3 hd hm1 hm2 h1
    go_wp2_with fail
    skip
    go_roundw
    case rel =>
     refine⟨k+1,x' / q,s+((q - x' % q) % q)*u,u*q,by omega,Nat.le_trans (Nat.div_le_self _ _) hx',?_,?_,?_,?_,?_,by go_num,hE⟩
     · apply add_next
       rw[←Hst.out];exact Hs.out
     · rw[←Hu2.out,←Hu.out,Hq.out];push_cast;rw[Int.mul_comm]
     · exact div_val (Nat.le_trans hx' (Nat.le_of_lt hx))
     · first | exact neg_val hsb (by omega) Hm1.out | (rw[show (-((x':Int) % (q:Int))) % (q:Int)=((q:Int) - (x':Int) % (q:Int)) % (q:Int) from by simp];exact neg_val hsb (by omega) Hm1.out)
     · exact mul_val u q
    case measure=>(simp[intOf];omega)
  · have hkl:k=l.length:=by omega
    subst hkl
    go_wp2_with fail
    go_ret
    exact⟨ret_int (by have:=Hs.out;rw[List.drop_length] at this;simp[negF] at this;omega),hE0.trans hE⟩
theorem l2Negate_any(v:Value)(l:List Int)(x:Nat)(w:World)(h:Ints w v l)(Hgr:Hid (isGrp l=true))(hx:x<16777216) :
 Calls Tryz.prog 211 #[.agg #[v],.int .i64 x] w fun e w'=>e=.returned (.int .i64 (negF l x))∧Ext w w':=by
 obtain⟨ao,c,adr,rfl,hlen,hadr,hcell⟩:=h.op
 have hix:=ints_index (c:=c) elI szI hadr
 clear hadr h
 obtain⟨wb,hwb⟩:∃wb,wb=w.alloc (.cells #[.slice ao l.length c] 27):=⟨_,rfl⟩
 have hE0:=(Ext.refl w).alloc (.cells #[.slice ao l.length c] 27)
 have hb:=box_cell w (.slice ao l.length c) 27
 rw[←hwb] at hE0 hb
 have hE:=Ext.refl wb
 have Hwb:=Lib.hid hwb
 have hA:=negF_bd Hgr.out x
 have h3:=isGrp_len Hgr.out
 clear hwb
 go_enter Tryz.func211,Tryz.ntmps211
 go_wp2_with fail
 rw[←Hwb.out]
 go_loopw [1,5,6,7] (fun xv sv uv i wr=>∃k x' s u:Nat,k≤l.length∧x'≤x∧s+u*negF (l.drop k) x'=negF l x∧(u:Int)=prodL (l.take k)∧xv=.int .i64 x'∧sv=.int .i64 s∧uv=.int .i64 u∧i=.int .i64 k∧Ext wb wr) (fun _ _ _ i _=>l.length - (intOf i).toNat)
 case atStart=>exact⟨0,x,0,1,by omega,by omega,by simp,by simp[prodL],rfl,rfl,rfl,rfl,hE⟩
 case round =>
  clear hE
  obtain⟨k,x',s,u,hk,hx',hs,hu,rfl,rfl,rfl,rfl,hE⟩:=hrel
  have hbx:=hb wr hE
  have hsb:=add_inv hs hA
  obtain⟨hu1,hu2⟩:=prodL_bd3 k l hk (by omega) (fun j hj=>isGrp_nth Hgr.out (by omega))
  rw[←hu] at hu1 hu2
  have Hs:=Lib.hid hs
  have Hu:=Lib.hid hu
  clear hs hu hA
  by_cases hlt:k<l.length
  · have hck:=hcell k _ hlt (hE0.trans hE)
    obtain⟨hq1,hq2⟩:=isGrp_nth Hgr.out hlt
    obtain⟨q,hq⟩:=Int.eq_ofNat_of_zero_le (show 0≤nth l k by omega)
    have Hst:=Lib.hid (negF_step hlt hq x')
    have Hu2:Hid (nth l k*prodL (l.take k)=prodL (l.take (k+1))):=Lib.hid (by rw[prodL_take l k hlt,Int.mul_comm])
    rw[hq] at hq1 hq2
    have Hq:=Lib.hid hq
    have hd:(q - x' % q) % q<24:=Nat.lt_of_lt_of_le (Nat.mod_lt _ (by omega)) (by omega)
    have hm1:((q - x' % q) % q)*u≤24*13824:=Nat.mul_le_mul (by omega) (by omega)
    have hm2:u*q≤13824*24:=Nat.mul_le_mul (by omega) (by omega)
    have h1:=Nat.mod_lt x' (show 0<q by omega)
    have c1:(q:Int) - (x':Int) % (q:Int)=((q - x' % q:Nat):Int):=by rw[←Int.natCast_emod];omega
    have c2:(((q:Int) - (x':Int) % (q:Int)) % (q:Int))*(u:Int)=((((q - x' % q) % q)*u:Nat):Int):=by rw[c1,Int.natCast_mul,Int.natCast_emod]
    have c3:((u*q:Nat):Int)=(u:Int)*(q:Int):=Int.natCast_mul _ _
    have b1:(x':Int) % (q:Int)<24:=by have:=Int.emod_lt_of_pos (x':Int) (show (0:Int)<q by omega);omega
    have b3:0≤(x':Int) % (q:Int):=Int.emod_nonneg _ (by omega)
    have b2:0≤(q:Int) - (x':Int) % (q:Int):=by have:=Int.emod_lt_of_pos (x':Int) (show (0:Int)<q by omega);omega
    have b5:(((q:Int) - (x':Int) % (q:Int)) % (q:Int))*(u:Int)≤331776:=by rw[c2];omega
    have b6:0≤(((q:Int) - (x':Int) % (q:Int)) % (q:Int))*(u:Int):=by rw[c2];omega
    have b7:(u:Int)*(q:Int)≤331776:=by rw[←c3];omega
    have b8:0≤(u:Int)*(q:Int):=by rw[←c3];omega
    have Hm1:=Lib.hid hm1
    clear c1 c2 c3 hd hm1 hm2 h1
    go_wp2_with fail
    skip
    go_roundw
    case rel =>
     refine⟨k+1,x' / q,s+((q - x' % q) % q)*u,u*q,by omega,Nat.le_trans (Nat.div_le_self _ _) hx',?_,?_,?_,?_,?_,by go_num,hE⟩
     · apply add_next
       rw[←Hst.out];exact Hs.out
     · rw[←Hu2.out,←Hu.out,Hq.out];push_cast;rw[Int.mul_comm]
     · exact div_val (Nat.le_trans hx' (Nat.le_of_lt hx))
     · first | exact neg_val hsb (by omega) Hm1.out | (rw[show (-((x':Int) % (q:Int))) % (q:Int)=((q:Int) - (x':Int) % (q:Int)) % (q:Int) from by simp];exact neg_val hsb (by omega) Hm1.out)
     · exact mul_val u q
    case measure=>(simp[intOf];omega)
  · have hkl:k=l.length:=by omega
    subst hkl
    go_wp2_with fail
    go_ret
    exact⟨ret_int (by have:=Hs.out;rw[List.drop_length] at this;simp[negF] at this;omega),hE0.trans hE⟩
theorem opposite_any(v:Value)(l:List Int)(a:Nat)(w:World)(h:Ints w v l)(Hgr:Hid (isGrp l=true))(ha:a<2 ^ 24) :
 Calls Tryz.prog 173 #[.agg #[v],.int .i64 a] w fun e w'=>e=.returned (.int .i64 (oppF l a))∧Ext w w':=by
 obtain⟨wb,hwb⟩:∃wb,wb=w.alloc (.cells #[v] 27):=⟨_,rfl⟩
 have hE0:=(Ext.refl w).alloc (.cells #[v] 27)
 have hb:=box_cell w v 27
 rw[←hwb] at hE0 hb
 have hg:∀W,Ext wb W→Ints W v l:=fun W hW=>h.ext (hE0.trans hW)
 have hE:=Ext.refl wb
 have Hsz:Hid (w.heap.size+1=wb.heap.size):=Lib.hid (by rw[hwb];simp[go_sem])
 have Hwb:=Lib.hid hwb
 clear hwb h
 go_enter Tryz.func173,Tryz.ntmps173
 go_wp2_with fail
 rw[←Hwb.out]
 go_wp2_with (first | (go_at_call 153;refine (members_any _ (ha) _).mono ?_;rintro e w1 ⟨v1,rfl,hL,hE1⟩;obtain⟨aoL,cL,adrL,rfl,hadrL,hcellL⟩:=hL.ints.nats;have hixL:=ints_index (c:=cL) elI szI hadrL;clear hadrL))
 have hb1:∀W,Ext w1 W→W.cell? ⟨w.heap.size,0,none⟩=some v:=fun W hW=>hb W (hE1.trans hW)
 have hg1:∀W,Ext w1 W→Ints W v l:=fun W hW=>hg W (hE1.trans hW)
 replace hE:=Ext.refl w1
 clear hb hg hL
 have hall:∀y∈elems a,y<24:=fun y hy=>elems_lt hy
 have hlen:=elems_len a
 have Hd:=Lib.hid (oppL_all l a)
 generalize elems a=L at hcellL hixL hall hlen Hd ⊢
 go_loopw [5,11] (fun ov i wr=>∃k:Nat,k≤L.length∧i=.int .i64 k∧ov=.int .i64 ((oppL l (L.take k):Nat):Int)∧Ext w1 wr) (fun _ i _=>L.length - (intOf i).toNat)
 case atStart=>exact⟨0,by omega,rfl,by simp[oppL,bset],hE⟩
 case round =>
  clear hE
  obtain⟨k,hk,rfl,rfl,hE⟩:=hrel
  by_cases hlt:k<L.length
  · have hck:=hcellL k _ hlt hE
    have hbx:=hb1 _ hE
    have hby:=hall _ (nthN_mem hlt)
    have Ht:=Lib.hid (oppL_snoc l (L.take k) (nthN L k))
    have Ht2:=Lib.hid (take_nthN L k hlt)
    have hz:=negF_bd Hgr.out (nthN L k)
    have hs1:=ishl_one (n:=negF l (nthN L k)) (by omega)
    have hs2:=ior_pw (oppL_bd Hgr.out (L.take k)) hz
    go_wp2_with (first | (go_at_call 197;refine (negate_any _ _ _ _ (hg1 _ hE) (Hgr) ((by omega))).mono ?_;rintro e w' ⟨rfl,hE'⟩;replace hE:=hE.trans hE';clear hE'))
    go_roundw
    case rel=>exact⟨k+1,by omega,by go_num,by rw[Ht2.out,Ht.out],hE⟩
    case measure=>(simp[intOf];omega)
  · have hkl:k=L.length:=by omega
    subst hkl
    go_wp2_with fail
    go_ret
    exact⟨ret_int (by rw[List.take_length,Hd.out]),hE0.trans (hE1.trans hE)⟩
theorem l3Negate_any(v:Value)(l:List Int)(a:Nat)(w:World)(h:Ints w v l)(Hgr:Hid (isGrp l=true))(ha:a<2 ^ 24) :
 Calls Tryz.prog 189 #[.agg #[v],.int .i64 a] w fun e w'=>e=.returned (.int .i64 (oppF l a))∧Ext w w':=by
 obtain⟨wb,hwb⟩:∃wb,wb=w.alloc (.cells #[v] 27):=⟨_,rfl⟩
 have hE0:=(Ext.refl w).alloc (.cells #[v] 27)
 have hb:=box_cell w v 27
 rw[←hwb] at hE0 hb
 have hg:∀W,Ext wb W→Ints W v l:=fun W hW=>h.ext (hE0.trans hW)
 have hE:=Ext.refl wb
 have Hsz:Hid (w.heap.size+1=wb.heap.size):=Lib.hid (by rw[hwb];simp[go_sem])
 have Hwb:=Lib.hid hwb
 clear hwb h
 go_enter Tryz.func189,Tryz.ntmps189
 go_wp2_with fail
 rw[←Hwb.out]
 go_wp2_with (first | (go_at_call 108;refine (l3List_any _ (ha) _).mono ?_;rintro e w1 ⟨v1,rfl,hL,hE1⟩;obtain⟨aoL,cL,adrL,rfl,hadrL,hcellL⟩:=hL.ints.nats;have hixL:=ints_index (c:=cL) elI szI hadrL;clear hadrL))
 have hb1:∀W,Ext w1 W→W.cell? ⟨w.heap.size,0,none⟩=some v:=fun W hW=>hb W (hE1.trans hW)
 have hg1:∀W,Ext w1 W→Ints W v l:=fun W hW=>hg W (hE1.trans hW)
 replace hE:=Ext.refl w1
 clear hb hg hL
 have hall:∀y∈elems a,y<24:=fun y hy=>elems_lt hy
 have hlen:=elems_len a
 have Hd:=Lib.hid (oppL_all l a)
 generalize elems a=L at hcellL hixL hall hlen Hd ⊢
 go_loopw [5,7] (fun ov i wr=>∃k:Nat,k≤L.length∧i=.int .i64 k∧ov=.int .i64 ((oppL l (L.take k):Nat):Int)∧Ext w1 wr) (fun _ i _=>L.length - (intOf i).toNat)
 case atStart=>exact⟨0,by omega,rfl,by simp[oppL,bset],hE⟩
 case round =>
  clear hE
  obtain⟨k,hk,rfl,rfl,hE⟩:=hrel
  by_cases hlt:k<L.length
  · have hck:=fun U=>hcellL k _ hlt (lat_ext w1 U)
    have hbx:=fun U=>hb1 _ (lat_ext w1 U)
    have hby:=hall _ (nthN_mem hlt)
    have Ht:=Lib.hid (oppL_snoc l (L.take k) (nthN L k))
    have Ht2:=Lib.hid (take_nthN L k hlt)
    have hz:=negF_bd Hgr.out (nthN L k)
    have hs1:=ishl_one (n:=negF l (nthN L k)) (by omega)
    have hs2:=ior_pw (oppL_bd Hgr.out (L.take k)) hz
    go_wp2_with fail
    (refine wp_region_lat (w1) (by kernel_rfl) (by kernel_rfl) hE ?_);(repeat (go_big_quiet_step (first | (go_at_call 211;exact Calls.lat (l2Negate_any _ _ _ _ (hg1 _ (lat_ext w1 _)) (Hgr) ((by omega)))))));(refine wpQuiet_nil ?_);(intro W hE');(replace hE:=lat_of hE');(clear hE')
    go_wp2_with fail
    go_roundw
    case rel=>exact⟨k+1,by omega,by go_num,by rw[Ht2.out,Ht.out],hE⟩
    case measure=>(simp[intOf];omega)
  · have hkl:k=L.length:=by omega
    subst hkl
    go_wp2_with fail
    go_ret
    exact⟨ret_int (by rw[List.take_length,Hd.out]),hE0.trans (hE1.trans hE)⟩
theorem difference_any(v:Value)(l:List Int)(a b:Nat)(w:World)(h:Ints w v l)(Hgr:Hid (isGrp l=true))(ha:a<2 ^ 24)(hb':b<2 ^ 24) :
 Calls Tryz.prog 96 #[.agg #[v],.int .i64 a,.int .i64 b] w fun e w'=>e=.returned (.int .i64 (sumF l a (oppF l b)))∧Ext w w':=by
 obtain⟨wb,hwb⟩:∃wb,wb=w.alloc (.cells #[v] 27):=⟨_,rfl⟩
 have hE0:=(Ext.refl w).alloc (.cells #[v] 27)
 have hb:=box_cell w v 27
 rw[←hwb] at hE0 hb
 have hg:∀W,Ext wb W→Ints W v l:=fun W hW=>h.ext (hE0.trans hW)
 have hE:=Ext.refl wb
 have Hsz:Hid (w.heap.size+1=wb.heap.size):=Lib.hid (by rw[hwb];simp[go_sem])
 have Hwb:=Lib.hid hwb
 clear hwb h
 have hbx:=fun U=>hb _ (lat_ext wb U)
 have ho:=oppF_bd Hgr.out b
 go_enter Tryz.func96,Tryz.ntmps96
 go_wp2_with fail
 rw[←Hwb.out]
 (refine wp_region_lat (wb) (by kernel_rfl) (by kernel_rfl) hE ?_);(repeat (go_big_quiet_step (first | (go_at_call 173;exact Calls.lat (opposite_any _ _ _ _ (hg _ (lat_ext wb _)) (Hgr) (hb'))) | (go_at_call 79;exact Calls.lat (sum_any _ _ _ _ _ (hg _ (lat_ext wb _)) (Hgr) (ha) (ho))))));(refine wpQuiet_nil ?_);(intro W hE');(replace hE:=lat_of hE');(clear hE')
 go_wp2_with fail
 go_ret
 exact⟨rfl,hE0.trans hE⟩
end Go.Zz
namespace Go.Zz
open Go.RowKit Go.Proofs
set_option maxHeartbeats 400000
theorem generated_any(v:Value)(l:List Int)(a:Nat)(w:World)(h:Ints w v l)(Hgr:Hid (isGrp l=true))(ha:a<2 ^ 24) :
 Calls Tryz.prog 174 #[.agg #[v],.int .i64 a] w fun e w'=>e=.returned (.int .i64 (genF l a))∧Ext w w':=by
 obtain⟨wb,hwb⟩:∃wb,wb=w.alloc (.cells #[v] 27):=⟨_,rfl⟩
 have hE0:=(Ext.refl w).alloc (.cells #[v] 27)
 have hb:=box_cell w v 27
 rw[←hwb] at hE0 hb
 have hg:∀W,Ext wb W→Ints W v l:=fun W hW=>h.ext (hE0.trans hW)
 have hE:=Ext.refl wb
 have Hsz:Hid (w.heap.size+1=wb.heap.size):=Lib.hid (by rw[hwb];simp[go_sem])
 have Hwb:=Lib.hid hwb
 clear hwb h
 have hgb:=genF_bd Hgr.out a
 have ho:=oppF_bd Hgr.out a
 have Hone:=Lib.hid (genF_one l a)
 go_enter Tryz.func174,Tryz.ntmps174
 go_wp2_with fail
 rw[←Hwb.out]
 go_loopw [5] (fun hv wr=>∃h:Nat,Sub 1 h∧Sub h (genF l a)∧hv=.int .i64 h∧Ext wb wr) (fun hv _=>16777216 - (intOf hv).toNat)
 case atStart=>exact⟨1,Sub.refl 1,Hone.out,rfl,hE⟩
 case round =>
  clear hE
  obtain⟨h,h1,h2,rfl,hE⟩:=hrel
  have hbx:=fun U=>hb _ (lat_ext wb U)
  have hh:=sub_bd hgb h2
  have hs1:=sumF_bd Hgr.out h a
  have hs2:=sumF_bd Hgr.out h (oppF l a)
  have i1:=ior_nat (a:=h) (b:=sumF l h a) (by omega) (by omega)
  have ho1:h ||| sumF l h a<2 ^ 24:=Nat.or_lt_two_pow hh hs1
  have i2:=ior_nat (a:=h ||| sumF l h a) (b:=sumF l h (oppF l a)) (by omega) (by omega)
  have hN2:=grow2_sub Hgr.out h2
  have hN1:=grow2_le l a h
  have hend:=grow2_end h1 h2
  have hNb:=sub_bd hgb hN2
  rw[show h ||| sumF l h a ||| sumF l h (oppF l a)=grow2 l a h from rfl] at i2
  generalize grow2 l a h=N at i2 hN2 hN1 hend hNb
  have H1:=Lib.hid h1
  have H2:=Lib.hid h2
  have HN1:=Lib.hid hN1
  have HN2:=Lib.hid hN2
  have He:=Lib.hid hend
  clear h1 h2 hN1 hN2 hend
  by_cases hq:N=h
  · have hq':((N:Int) == (h:Int))=true:=by simp[hq]
    have Hq:=Lib.hid hq
    clear hq
    go_wp2_with fail
    (refine wp_region_lat (wb) (by kernel_rfl) (by kernel_rfl) hE ?_);(repeat (go_big_quiet_step (first | (go_at_call 79;exact Calls.lat (sum_any _ _ _ _ _ (hg _ (lat_ext wb _)) (Hgr) (hh) (ha))) | (go_at_call 79;exact Calls.lat (sum_any _ _ _ _ _ (hg _ (lat_ext wb _)) (Hgr) (hh) (ho))) | (go_at_call 173;exact Calls.lat (opposite_any _ _ _ _ (hg _ (lat_ext wb _)) (Hgr) (ha))))));(refine wpQuiet_nil ?_);(intro W hE');(replace hE:=lat_of hE');(clear hE')
    go_wp2_with fail
    go_ret
    exact⟨ret_int (by rw[←He.out Hq.out]),hE0.trans hE⟩
  · have hq':((N:Int) == (h:Int))=false:=by simp;omega
    have Hlt:=Lib.hid (sub_lt hNb HN1.out (fun e=>hq e.symm)).1
    clear hq
    go_wp2_with fail
    (refine wp_region_lat (wb) (by kernel_rfl) (by kernel_rfl) hE ?_);(repeat (go_big_quiet_step (first | (go_at_call 79;exact Calls.lat (sum_any _ _ _ _ _ (hg _ (lat_ext wb _)) (Hgr) (hh) (ha))) | (go_at_call 79;exact Calls.lat (sum_any _ _ _ _ _ (hg _ (lat_ext wb _)) (Hgr) (hh) (ho))) | (go_at_call 173;exact Calls.lat (opposite_any _ _ _ _ (hg _ (lat_ext wb _)) (Hgr) (ha))))));(refine wpQuiet_nil ?_);(intro W hE');(replace hE:=lat_of hE');(clear hE')
    go_wp2_with fail
    go_roundw
    case rel=>exact⟨N,H1.out.trans HN1.out,HN2.out,rfl,hE⟩
    case measure=>(simp[intOf];have:=Hlt.out;omega)
theorem l5Closure_any(v:Value)(l:List Int)(a:Nat)(w:World)(h:Ints w v l)(Hgr:Hid (isGrp l=true))(ha:a<2 ^ 24) :
 Calls Tryz.prog 190 #[.agg #[v],.int .i64 a] w fun e w'=>e=.returned (.int .i64 (genF l a))∧Ext w w':=by
 obtain⟨wb,hwb⟩:∃wb,wb=w.alloc (.cells #[v] 27):=⟨_,rfl⟩
 have hE0:=(Ext.refl w).alloc (.cells #[v] 27)
 have hb:=box_cell w v 27
 rw[←hwb] at hE0 hb
 have hg:∀W,Ext wb W→Ints W v l:=fun W hW=>h.ext (hE0.trans hW)
 have hE:=Ext.refl wb
 have Hsz:Hid (w.heap.size+1=wb.heap.size):=Lib.hid (by rw[hwb];simp[go_sem])
 have Hwb:=Lib.hid hwb
 clear hwb h
 have hbx:=hb wb hE
 have hgb:=genF_bd Hgr.out a
 have Hone:=Lib.hid (genF_one l a)
 have h1b:(1:Nat)<2 ^ 24:=by omega
 have hs1:=sumF_bd Hgr.out 1 a
 have i1:=ior_nat (a:=1) (b:=sumF l 1 a) (by omega) (by omega)
 go_enter Tryz.func190,Tryz.ntmps190
 go_wp2_with fail
 rw[←Hwb.out]
 go_wp2_with (first | (go_at_call 84;refine (l4Sum_any _ _ _ _ _ (hg _ hE) (Hgr) (h1b) (ha)).mono ?_;rintro e w' ⟨rfl,hE'⟩;replace hE:=hE.trans hE';clear hE'))
 clear hbx hs1
 go_loopw [5,6] (fun hv nv wr=>∃h:Nat,Sub 1 h∧Sub h (genF l a)∧hv=.int .i64 h∧nv=.int .i64 (grow l a h:Nat)∧Ext wb wr) (fun hv _ _=>16777216 - (intOf hv).toNat)
 case atStart=>exact⟨1,Sub.refl 1,Hone.out,rfl,by unfold grow;rw[←i1];rfl,hE⟩
 case round =>
  clear hE i1
  obtain⟨h,h1,h2,rfl,rfl,hE⟩:=hrel
  have hbx:=hb _ hE
  have hh:=sub_bd hgb h2
  have hN2:=grow_sub Hgr.out h2
  have hN1:Sub h (grow l a h):=Sub.or_left _ _
  have hend:=grow_end h1 h2
  have hNb:=sub_bd hgb hN2
  generalize grow l a h=N at hN2 hN1 hend hNb ⊢
  have hs1:=sumF_bd Hgr.out N a
  have i1:=ior_nat (a:=N) (b:=sumF l N a) (by omega) (by omega)
  have Hi:Hid (N ||| sumF l N a=grow l a N):=Lib.hid rfl
  have H1:=Lib.hid h1
  have H2:=Lib.hid h2
  have HN1:=Lib.hid hN1
  have HN2:=Lib.hid hN2
  have He:=Lib.hid hend
  clear h1 h2 hN1 hN2 hend
  by_cases hq:N=h
  · have hq':((N:Int) != (h:Int))=false:=by simp[hq]
    have Hq:=Lib.hid hq
    clear hq
    go_wp2_with fail
    go_ret
    exact⟨ret_int (by rw[←He.out Hq.out]),hE0.trans hE⟩
  · have hq':((N:Int) != (h:Int))=true:=by simp;omega
    have Hlt:=Lib.hid (sub_lt hNb HN1.out (fun e=>hq e.symm)).1
    clear hq
    go_wp2_with (first | (go_at_call 84;refine (l4Sum_any _ _ _ _ _ (hg _ hE) (Hgr) (hNb) (ha)).mono ?_;rintro e w' ⟨rfl,hE'⟩;replace hE:=hE.trans hE';clear hE'))
    go_roundw
    case rel=>exact⟨N,H1.out.trans HN1.out,HN2.out,rfl,by rw[Hi.out],hE⟩
    case measure=>(simp[intOf];have:=Hlt.out;omega)
end Go.Zz
namespace Go.Zz
open Go.RowKit Go.Proofs
set_option maxHeartbeats 400000
def scD(l:List Int)(a:Int):Int:=if smallF l a then (sumF l a.toNat (oppF l a.toNat):Int) else 0
def scS(l:List Int)(a:Int):Int:=if smallF l a then (sumF l a.toNat (sumF l a.toNat (oppF l a.toNat)):Int) else 0
theorem sc_no{l:List Int}{a:Int}(h:smallF l a=false):scD l a=0∧scS l a=0:=by unfold scD scS;rw[h];exact⟨rfl,rfl⟩
theorem sc_yes{l:List Int}{n:Nat}(h:smallF l n=true):scD l n=(sumF l n (oppF l n):Int)∧scS l n=(sumF l n (sumF l n (oppF l n)):Int):=by unfold scD scS;rw[h];exact⟨rfl,rfl⟩
theorem smallF_nat{l:List Int}{a:Int}(h:smallF l a=true):∃n:Nat,a=n∧n<2 ^ ord l∧n<2 ^ 24∧isGrp l=true∧isSetB l a=true:=by
 unfold smallF at h
 have h1:=(Bool.and_eq_true_iff.1 (Bool.and_eq_true_iff.1 h).1).1
 obtain⟨n,rfl,a,b,c⟩:=isSetB_nat h1
 exact⟨n,rfl,a,b,c,h1⟩
theorem IsSmallDoubling_val(v:Value)(l:List Int)(a:Int)(w:World)(h:Ints w v l){b:Bool}(hb:smallF l a=b) :
 Calls Tryz.prog 95 #[.agg #[v],.int .i64 a] w fun e w'=>e=.returned (.bool b)∧Ext w w':=by
 subst hb;exact IsSmallDoubling_any v l a w h
theorem sIsSmallDoubling_val(v:Value)(l:List Int)(a:Int)(w:World)(h:Ints w v l){b:Bool}(hb:smallF l a=b) :
 Calls Tryz.prog 122 #[.agg #[v],.int .i64 a] w fun e w'=>e=.returned (.bool b)∧Ext w w':=by
 subst hb;exact sIsSmallDoubling_any v l a w h
theorem sDifferenceOfSets_nat(v:Value)(l:List Int)(a b:Nat)(w:World)(h:Ints w v l)(ha:isSetB l a=true)(hb':isSetB l b=true) :
 Calls Tryz.prog 123 #[.agg #[v],.int .i64 a,.int .i64 b] w fun e w'=>e=.returned (.int .i64 (sumF l a (oppF l b)))∧Ext w w':=by
 obtain⟨wb,hwb⟩:∃wb,wb=w.alloc (.cells #[v] 27):=⟨_,rfl⟩
 have hE0:=(Ext.refl w).alloc (.cells #[v] 27)
 have hb:=box_cell w v 27
 rw[←hwb] at hE0 hb
 have hg:∀W,Ext wb W→Ints W v l:=fun W hW=>h.ext (hE0.trans hW)
 have hE:=Ext.refl wb
 have Hsz:Hid (w.heap.size+1=wb.heap.size):=Lib.hid (by rw[hwb];simp[go_sem])
 have Hwb:=Lib.hid hwb
 clear hwb h
 obtain⟨a',e1,-,ha2,hgr⟩:=isSetB_nat ha
 obtain⟨b',e2,-,hb2,-⟩:=isSetB_nat hb'
 obtain rfl:a=a':=by omega
 obtain rfl:b=b':=by omega
 have hbx:=fun U=>hb _ (lat_ext wb U)
 have hbx1:=hb wb hE
 have Hgr:=Lib.hid hgr
 have ho:=oppF_bd hgr b
 clear hgr e1 e2
 go_enter Tryz.func123,Tryz.ntmps123
 go_wp2_with fail
 rw[←Hwb.out]
 go_wp2_with (first | (go_at_call 126;(first | (with_reducible refine Calls.mono (sIsSet_val _ _ (a:Int) _ (hg _ hE) ha) ?_) | (with_reducible refine Calls.mono (sIsSet_val _ _ (b:Int) _ (hg _ hE) hb') ?_));rintro e w' ⟨rfl,hE'⟩;replace hE:=hE.trans hE';clear hE'))
 (refine wp_region_lat (wb) (by kernel_rfl) (by kernel_rfl) hE ?_);(repeat (go_big_quiet_step (first | (go_at_call 189;exact Calls.lat (l3Negate_any _ _ _ _ (hg _ (lat_ext wb _)) (Hgr) (hb2))) | (go_at_call 84;exact Calls.lat (l4Sum_any _ _ _ _ _ (hg _ (lat_ext wb _)) (Hgr) (ha2) (ho))))));(refine wpQuiet_nil ?_);(intro W hE');(replace hE:=lat_of hE');(clear hE')
 go_wp2_with fail
 go_ret
 exact⟨rfl,hE0.trans hE⟩
theorem SmallCoset_any(v:Value)(l:List Int)(a:Int)(w:World)(h:Ints w v l) :
 Calls Tryz.prog 114 #[.agg #[v],.int .i64 a] w fun e w'=>e=.returned (.tuple #[.int .i64 (scD l a),.int .i64 (scS l a),.bool (smallF l a)])∧Ext w w':=by
 obtain⟨wb,hwb⟩:∃wb,wb=w.alloc (.cells #[v] 27):=⟨_,rfl⟩
 have hE0:=(Ext.refl w).alloc (.cells #[v] 27)
 have hb:=box_cell w v 27
 rw[←hwb] at hE0 hb
 have hg:∀W,Ext wb W→Ints W v l:=fun W hW=>h.ext (hE0.trans hW)
 have hE:=Ext.refl wb
 have Hsz:Hid (w.heap.size+1=wb.heap.size):=Lib.hid (by rw[hwb];simp[go_sem])
 have Hwb:=Lib.hid hwb
 clear hwb h
 have hbx:=hb wb hE
 cases hs:smallF l a
 · have Hs:=Lib.hid (sc_no hs)
   go_enter Tryz.func114,Tryz.ntmps114
   go_wp2_with fail
   rw[←Hwb.out]
   go_wp2_with (first | (go_at_call 95;refine (IsSmallDoubling_val _ _ _ _ (hg _ hE) (hs)).mono ?_;rintro e w' ⟨rfl,hE'⟩;replace hE:=hE.trans hE';clear hE'))
   refine bodyPost_ret (v:=.tuple #[.int .i64 0,.int .i64 0,.bool false]) (by simp[results,Tryz.results114,go_sem]) rfl ⟨by rw[Hs.out.1,Hs.out.2],hE0.trans hE⟩
 · have Hs:Hid (∀n:Nat,a=n→scD l a=(sumF l n (oppF l n):Int)∧scS l a=(sumF l n (sumF l n (oppF l n)):Int)):=Lib.hid (fun n e=>by subst e;exact sc_yes hs)
   obtain⟨n,hn,h1,h2,hgr,-⟩:=smallF_nat hs
   subst hn
   have Hgr:=Lib.hid hgr
   have hd:=sumF_bd hgr n (oppF l n)
   clear hgr
   go_enter Tryz.func114,Tryz.ntmps114
   go_wp2_with fail
   rw[←Hwb.out]
   go_wp2_with (first | (go_at_call 95;refine (IsSmallDoubling_val _ _ _ _ (hg _ hE) (hs)).mono ?_;rintro e w' ⟨rfl,hE'⟩;replace hE:=hE.trans hE';clear hE') | (go_at_call 96;refine (difference_any _ _ _ _ _ (hg _ hE) (Hgr) (h2) (h2)).mono ?_;rintro e w' ⟨rfl,hE'⟩;replace hE:=hE.trans hE';clear hE'))
   replace hbx:=fun U=>hb _ (lat_ext wb U)
   try (refine wp_region_lat (wb) (by kernel_rfl) (by kernel_rfl) hE ?_);(repeat (go_big_quiet_step (first | (go_at_call 79;exact Calls.lat (sum_any _ _ _ _ _ (hg _ (lat_ext wb _)) (Hgr) (h2) (hd))))));(refine wpQuiet_nil ?_);(intro W hE');(replace hE:=lat_of hE');(clear hE')
   go_wp2_with (first | (go_at_call 79;refine (sum_any _ _ _ _ _ (hg _ hE) (Hgr) (h2) (hd)).mono ?_;rintro e w' ⟨rfl,hE'⟩;replace hE:=hE.trans hE';clear hE'))
   refine bodyPost_ret (v:=.tuple #[.int .i64 (sumF l n (oppF l n):Int),.int .i64 (sumF l n (sumF l n (oppF l n)):Int),.bool true]) (by simp[results,Tryz.results114,go_sem]) rfl ⟨by rw[(Hs.out n rfl).1,(Hs.out n rfl).2],hE0.trans hE⟩
theorem sSmallCoset_any(v:Value)(l:List Int)(a:Int)(w:World)(h:Ints w v l) :
 Calls Tryz.prog 115 #[.agg #[v],.int .i64 a] w fun e w'=>e=.returned (.tuple #[.int .i64 (scD l a),.int .i64 (scS l a),.bool (smallF l a)])∧Ext w w':=by
 obtain⟨wb,hwb⟩:∃wb,wb=w.alloc (.cells #[v] 27):=⟨_,rfl⟩
 have hE0:=(Ext.refl w).alloc (.cells #[v] 27)
 have hb:=box_cell w v 27
 rw[←hwb] at hE0 hb
 have hg:∀W,Ext wb W→Ints W v l:=fun W hW=>h.ext (hE0.trans hW)
 have hE:=Ext.refl wb
 have Hsz:Hid (w.heap.size+1=wb.heap.size):=Lib.hid (by rw[hwb];simp[go_sem])
 have Hwb:=Lib.hid hwb
 clear hwb h
 have hbx:=hb wb hE
 cases hs:smallF l a
 · have Hs:=Lib.hid (sc_no hs)
   go_enter Tryz.func115,Tryz.ntmps115
   go_wp2_with fail
   rw[←Hwb.out]
   go_wp2_with (first | (go_at_call 122;refine (sIsSmallDoubling_val _ _ _ _ (hg _ hE) (hs)).mono ?_;rintro e w' ⟨rfl,hE'⟩;replace hE:=hE.trans hE';clear hE'))
   refine bodyPost_ret (v:=.tuple #[.int .i64 0,.int .i64 0,.bool false]) (by simp[results,Tryz.results115,go_sem]) rfl ⟨by rw[Hs.out.1,Hs.out.2],hE0.trans hE⟩
 · have Hs:Hid (∀n:Nat,a=n→scD l a=(sumF l n (oppF l n):Int)∧scS l a=(sumF l n (sumF l n (oppF l n)):Int)):=Lib.hid (fun n e=>by subst e;exact sc_yes hs)
   obtain⟨n,hn,h1,h2,hgr,hss⟩:=smallF_nat hs
   subst hn
   have Hgr:=Lib.hid hgr
   have hd:=sumF_bd hgr n (oppF l n)
   clear hgr
   go_enter Tryz.func115,Tryz.ntmps115
   go_wp2_with fail
   rw[←Hwb.out]
   go_wp2_with (first | (go_at_call 122;refine (sIsSmallDoubling_val _ _ _ _ (hg _ hE) (hs)).mono ?_;rintro e w' ⟨rfl,hE'⟩;replace hE:=hE.trans hE';clear hE') | (go_at_call 123;refine (sDifferenceOfSets_nat _ _ _ _ _ (hg _ hE) (hss) (hss)).mono ?_;rintro e w' ⟨rfl,hE'⟩;replace hE:=hE.trans hE';clear hE'))
   replace hbx:=fun U=>hb _ (lat_ext wb U)
   try (refine wp_region_lat (wb) (by kernel_rfl) (by kernel_rfl) hE ?_);(repeat (go_big_quiet_step (first | (go_at_call 84;exact Calls.lat (l4Sum_any _ _ _ _ _ (hg _ (lat_ext wb _)) (Hgr) (h2) (hd))))));(refine wpQuiet_nil ?_);(intro W hE');(replace hE:=lat_of hE');(clear hE')
   go_wp2_with (first | (go_at_call 84;refine (l4Sum_any _ _ _ _ _ (hg _ hE) (Hgr) (h2) (hd)).mono ?_;rintro e w' ⟨rfl,hE'⟩;replace hE:=hE.trans hE';clear hE'))
   refine bodyPost_ret (v:=.tuple #[.int .i64 (sumF l n (oppF l n):Int),.int .i64 (sumF l n (sumF l n (oppF l n)):Int),.bool true]) (by simp[results,Tryz.results115,go_sem]) rfl ⟨by rw[(Hs.out n rfl).1,(Hs.out n rfl).2],hE0.trans hE⟩
end Go.Zz
namespace Go.Zz
open Go.RowKit Go.Proofs
set_option maxHeartbeats 2000000
set_option maxRecDepth 20000
theorem copyGroup_any(v:Value)(l:List Int)(w:World)(h:Ints w v l) :
 Calls Tryz.prog 80 #[.agg #[v]] w fun e w'=>∃ao c,e=.returned (.agg #[.slice ao l.length c])∧Own 3 w w' (.slice ao l.length c) l∧Ext w w':=by
 obtain⟨wb,hwb⟩:∃wb,wb=w.alloc (.cells #[v] 27):=⟨_,rfl⟩
 have hE0:=(Ext.refl w).alloc (.cells #[v] 27)
 have hb:=box_cell w v 27
 rw[←hwb] at hE0 hb
 have hg:∀W,Ext wb W→Ints W v l:=fun W hW=>h.ext (hE0.trans hW)
 have hE:=Ext.refl wb
 have Hsz:Hid (w.heap.size+1=wb.heap.size):=Lib.hid (by rw[hwb];simp[go_sem])
 have Hwb:=Lib.hid hwb
 clear hwb h
 obtain⟨wc,hwc⟩:∃wc,wc=wb.alloc (.cells #[.slice none 0 0] 27):=⟨_,rfl⟩
 have hBc:Blk wc wb.heap.size 27 #[.slice none 0 0]:=by rw[hwc];exact Blk.new _ _ _
 have hRc:Res wc wb.heap.size 1:=hBc.res (by simp)
 have hAc:Ext wb wc:=by rw[hwc];exact hE.alloc _
 replace hE:=Ext.refl wc
 have Hsz2:Hid (wb.heap.size+1=wc.heap.size):=Lib.hid (by rw[hwc];simp[go_sem])
 have Hwc:=Lib.hid hwc
 clear hwc hBc
 have hgc:∀W,Ext wc W→Ints W v l:=fun W hW=>hg W (hAc.trans hW)
 have hbc:∀W,Ext wc W→W.cell? ⟨w.heap.size,0,none⟩=some v:=fun W hW=>hb W (hAc.trans hW)
 go_enter Tryz.func80,Tryz.ntmps80
 go_wp2_with fail
 rw[←Hwb.out,←Hwc.out];rw[Hsz.out]
 refine (Calls.sh (copyInts_any _ _ _ (hgc _ hE))).mono ?_
 rintro e w1 ⟨ao,c,rfl,hO,hE1⟩
 have hr:=hRc.ext hE1
 unfold Res at hr
 have hwc:wb.heap.size<wc.heap.size:=by have:=Hsz2.out;omega
 go_wp2_with fail
 exact bodyPost_ret (v:=.agg #[.slice ao l.length c]) (by simp[results,Tryz.results80,go_sem,hr]) rfl ⟨_,_,rfl,(hO.setCell_below hwc _).mono (hE0.trans hAc),hE0.trans (Ext.setCell (hAc.trans hE1) (Nat.le_refl _) _)⟩
theorem l33Group_any(v:Value)(l:List Int)(w:World)(h:Ints w v l) :
 Calls Tryz.prog 83 #[.agg #[v]] w fun e w'=>∃ao c,e=.returned (.agg #[.slice ao l.length c])∧Own 3 w w' (.slice ao l.length c) l∧Ext w w':=by
 obtain⟨wb,hwb⟩:∃wb,wb=w.alloc (.cells #[v] 27):=⟨_,rfl⟩
 have hE0:=(Ext.refl w).alloc (.cells #[v] 27)
 have hb:=box_cell w v 27
 rw[←hwb] at hE0 hb
 have hg:∀W,Ext wb W→Ints W v l:=fun W hW=>h.ext (hE0.trans hW)
 have hE:=Ext.refl wb
 have Hsz:Hid (w.heap.size+1=wb.heap.size):=Lib.hid (by rw[hwb];simp[go_sem])
 have Hwb:=Lib.hid hwb
 clear hwb h
 obtain⟨wc,hwc⟩:∃wc,wc=wb.alloc (.cells #[.slice none 0 0] 27):=⟨_,rfl⟩
 have hBc:Blk wc wb.heap.size 27 #[.slice none 0 0]:=by rw[hwc];exact Blk.new _ _ _
 have hRc:Res wc wb.heap.size 1:=hBc.res (by simp)
 have hAc:Ext wb wc:=by rw[hwc];exact hE.alloc _
 replace hE:=Ext.refl wc
 have Hsz2:Hid (wb.heap.size+1=wc.heap.size):=Lib.hid (by rw[hwc];simp[go_sem])
 have Hwc:=Lib.hid hwc
 clear hwc hBc
 have hgc:∀W,Ext wc W→Ints W v l:=fun W hW=>hg W (hAc.trans hW)
 have hbc:∀W,Ext wc W→W.cell? ⟨w.heap.size,0,none⟩=some v:=fun W hW=>hb W (hAc.trans hW)
 have hO:Own 3 wc (wc.alloc (.cells #[] 3)) (.slice (some ⟨wc.heap.size,0,none⟩) 0 0) []:=own_made (TI:=3) (n:=0) (by omega) (Ext.refl wc) [] rfl
 have hEl:=(Ext.refl wc).alloc (.cells #[] 3)
 have hI:=hgc _ hEl
 have kb:=hbc _ hEl
 have hlen:l.length≤17592186044416:=by obtain⟨_,_,_,_,h',_⟩:=hgc _ hE;exact h'
 have hwc:wb.heap.size<wc.heap.size:=by have:=Hsz2.out;omega
 have ez:wc.heap.size=w.heap.size+1+1:=by have:=Hsz.out;have:=Hsz2.out;omega
 rw[ez] at hO
 have hw:wc=(w.alloc (.cells #[v] 27)).alloc (.cells #[.slice none 0 0] 27):=by rw[Hwc.out,Hwb.out]
 have Hw:=Lib.hid hw
 rw[hw] at hO hI hEl kb
 clear hw ez
 go_enter Tryz.func83,Tryz.ntmps83
 go_wp2_with (at_builtin;refine wp_appends slI rfl _ _ rfl _ _ _ _ _ _ hO hI hEl (by simpa using hlen) rfl rfl ?_;intro v1 w1 hO1 hE1;rw[←Hw.out] at hO1 hE1;obtain⟨ao,c,rfl,-⟩:=hO1.shape;have hr:=hRc.ext hE1;unfold Res at hr;rw[←Hsz.out] at hr)
 exact bodyPost_ret (v:=.agg #[.slice ao ([]++l).length c]) (by simp[results,Tryz.results83,go_sem,hr]) rfl ⟨ao,c,by simp,(by simpa using (Own.setCell_below hO1 (show w.heap.size+1<wc.heap.size by rw[Hsz.out];exact hwc) _).mono (hE0.trans hAc)),hE0.trans (Ext.setCell (hAc.trans hE1) (Nat.le_of_eq Hsz.out.symm) _)⟩
theorem ClaimOfCoset_any(v:Value)(l:List Int)(a:Int)(w:World)(h:Ints w v l) :
 Calls Tryz.prog 32 #[.agg #[v],.int .i64 a] w fun e w'=>∃v1 v2 v3 v4,e=.returned (.tuple #[CV (if smallF l a then 7 else 0) v1 v2 (if smallF l a then a else 0) 0 (scS l a) (scD l a) v3 v4 0,.bool (smallF l a)])∧Own4 w w' v1 v2 v3 v4 (if smallF l a then l else []) [] [] []∧Ext w w':=by
 obtain⟨wb,hwb⟩:∃wb,wb=w.alloc (.cells #[v] 27):=⟨_,rfl⟩
 have hE0:=(Ext.refl w).alloc (.cells #[v] 27)
 have hb:=box_cell w v 27
 rw[←hwb] at hE0 hb
 have hg:∀W,Ext wb W→Ints W v l:=fun W hW=>h.ext (hE0.trans hW)
 have hE:=Ext.refl wb
 have Hsz:Hid (w.heap.size+1=wb.heap.size):=Lib.hid (by rw[hwb];simp[go_sem])
 have Hwb:=Lib.hid hwb
 clear hwb h
 obtain⟨wc,hwc⟩:∃wc,wc=wb.alloc (.cells #[.int .i64 0,.slice none 0 0,.slice none 0 0,.int .i64 0,.int .i64 0,.int .i64 0,.int .i64 0,.slice none 0 0,.slice none 0 0,.int .i64 0] 38):=⟨_,rfl⟩
 have hBc:Blk wc wb.heap.size 38 #[.int .i64 0,.slice none 0 0,.slice none 0 0,.int .i64 0,.int .i64 0,.int .i64 0,.int .i64 0,.slice none 0 0,.slice none 0 0,.int .i64 0]:=by rw[hwc];exact Blk.new _ _ _
 have hRc:Res wc wb.heap.size 10:=hBc.res (by simp)
 have hAc:Ext wb wc:=by rw[hwc];exact hE.alloc _
 replace hE:=Ext.refl wc
 have Hsz2:Hid (wb.heap.size+1=wc.heap.size):=Lib.hid (by rw[hwc];simp[go_sem])
 have Hwc:=Lib.hid hwc
 clear hwc hBc
 have hgc:∀W,Ext wc W→Ints W v l:=fun W hW=>hg W (hAc.trans hW)
 have hbc:∀W,Ext wc W→W.cell? ⟨w.heap.size,0,none⟩=some v:=fun W hW=>hb W (hAc.trans hW)
 have hwc:wb.heap.size<wc.heap.size:=by have:=Hsz2.out;omega
 cases hs:smallF l a
 · have Hs:=Lib.hid (sc_no hs)
   go_enter Tryz.func32,Tryz.ntmps32
   go_wp2_with fail
   rw[←Hwb.out,←Hwc.out];rw[Hsz.out]
   refine (SmallCoset_any _ _ _ _ (hgc _ hE)).mono ?_
   rw[Hs.out.1,Hs.out.2,hs]
   rintro e w1 ⟨rfl,hE1⟩
   have hr:=hRc.ext hE1
   unfold Res at hr
   go_wp2_with fail
   exact bodyPost_ret (v:=.tuple #[CV 0 (.slice none 0 0) (.slice none 0 0) 0 0 0 0 (.slice none 0 0) (.slice none 0 0) 0,.bool false]) (by simp[results,Tryz.results32,go_sem,hr,CV]) rfl ⟨_,_,_,_,by simp[Hs.out.1,Hs.out.2],⟨Own.nil _ _ _,Own.nil _ _ _,Own.nil _ _ _,Own.nil _ _ _,Apart.nil_left _,Apart.nil_left _,Apart.nil_left _,Apart.nil_left _,Apart.nil_left _,Apart.nil_left _⟩,hE0.trans (by (repeat (refine Ext.setCell ?_ (Nat.le_refl _) _));exact hAc.trans hE1)⟩
 · go_enter Tryz.func32,Tryz.ntmps32
   go_wp2_with fail
   rw[←Hwb.out,←Hwc.out];rw[Hsz.out]
   refine (SmallCoset_any _ _ _ _ (hgc _ hE)).mono ?_
   rw[hs]
   rintro e w1 ⟨rfl,hE1⟩
   have kb:=hbc _ hE1
   go_wp2_with fail
   refine (copyGroup_any _ _ _ (hgc _ hE1)).mono ?_
   rintro e w2 ⟨ao,c,rfl,hO,hE2⟩
   have hr:=hRc.ext (hE1.trans hE2)
   unfold Res at hr
   have hw1:wb.heap.size<w1.heap.size:=Nat.lt_of_lt_of_le hwc hE1.size
   go_wp2_with fail
   exact bodyPost_ret (v:=.tuple #[CV 7 (.slice ao l.length c) (.slice none 0 0) a 0 (scS l a) (scD l a) (.slice none 0 0) (.slice none 0 0) 0,.bool true]) (by simp[results,Tryz.results32,go_sem,hr,CV]) rfl ⟨_,_,_,_,by simp;rfl,⟨(show Own 3 w1 _ _ _ by (repeat (refine Own.setCell_below ?_ hw1 _));exact hO).mono (hE0.trans (hAc.trans hE1)),Own.nil _ _ _,Own.nil _ _ _,Own.nil _ _ _,Apart.nil_right _,Apart.nil_right _,Apart.nil_right _,Apart.nil_left _,Apart.nil_left _,Apart.nil_left _⟩,hE0.trans (by (repeat (refine Ext.setCell ?_ (Nat.le_refl _) _));exact hAc.trans (hE1.trans hE2))⟩
theorem sClaimOfCoset_any(v:Value)(l:List Int)(a:Int)(w:World)(h:Ints w v l) :
 Calls Tryz.prog 33 #[.agg #[v],.int .i64 a] w fun e w'=>∃v1 v2 v3 v4,e=.returned (.tuple #[CV (if smallF l a then 7 else 0) v1 v2 (if smallF l a then a else 0) 0 (scS l a) (scD l a) v3 v4 0,.bool (smallF l a)])∧Own4 w w' v1 v2 v3 v4 (if smallF l a then l else []) [] [] []∧Ext w w':=by
 obtain⟨wb,hwb⟩:∃wb,wb=w.alloc (.cells #[v] 27):=⟨_,rfl⟩
 have hE0:=(Ext.refl w).alloc (.cells #[v] 27)
 have hb:=box_cell w v 27
 rw[←hwb] at hE0 hb
 have hg:∀W,Ext wb W→Ints W v l:=fun W hW=>h.ext (hE0.trans hW)
 have hE:=Ext.refl wb
 have Hsz:Hid (w.heap.size+1=wb.heap.size):=Lib.hid (by rw[hwb];simp[go_sem])
 have Hwb:=Lib.hid hwb
 clear hwb h
 obtain⟨wc,hwc⟩:∃wc,wc=wb.alloc (.cells #[.int .i64 0,.slice none 0 0,.slice none 0 0,.int .i64 0,.int .i64 0,.int .i64 0,.int .i64 0,.slice none 0 0,.slice none 0 0,.int .i64 0] 38):=⟨_,rfl⟩
 have hBc:Blk wc wb.heap.size 38 #[.int .i64 0,.slice none 0 0,.slice none 0 0,.int .i64 0,.int .i64 0,.int .i64 0,.int .i64 0,.slice none 0 0,.slice none 0 0,.int .i64 0]:=by rw[hwc];exact Blk.new _ _ _
 have hRc:Res wc wb.heap.size 10:=hBc.res (by simp)
 have hAc:Ext wb wc:=by rw[hwc];exact hE.alloc _
 replace hE:=Ext.refl wc
 have Hsz2:Hid (wb.heap.size+1=wc.heap.size):=Lib.hid (by rw[hwc];simp[go_sem])
 have Hwc:=Lib.hid hwc
 clear hwc hBc
 have hgc:∀W,Ext wc W→Ints W v l:=fun W hW=>hg W (hAc.trans hW)
 have hbc:∀W,Ext wc W→W.cell? ⟨w.heap.size,0,none⟩=some v:=fun W hW=>hb W (hAc.trans hW)
 have hwc:wb.heap.size<wc.heap.size:=by have:=Hsz2.out;omega
 cases hs:smallF l a
 · have Hs:=Lib.hid (sc_no hs)
   go_enter Tryz.func33,Tryz.ntmps33
   go_wp2_with fail
   rw[←Hwb.out,←Hwc.out];rw[Hsz.out]
   refine (sSmallCoset_any _ _ _ _ (hgc _ hE)).mono ?_
   rw[Hs.out.1,Hs.out.2,hs]
   rintro e w1 ⟨rfl,hE1⟩
   have hr:=hRc.ext hE1
   unfold Res at hr
   go_wp2_with fail
   exact bodyPost_ret (v:=.tuple #[CV 0 (.slice none 0 0) (.slice none 0 0) 0 0 0 0 (.slice none 0 0) (.slice none 0 0) 0,.bool false]) (by simp[results,Tryz.results33,go_sem,hr,CV]) rfl ⟨_,_,_,_,by simp[Hs.out.1,Hs.out.2],⟨Own.nil _ _ _,Own.nil _ _ _,Own.nil _ _ _,Own.nil _ _ _,Apart.nil_left _,Apart.nil_left _,Apart.nil_left _,Apart.nil_left _,Apart.nil_left _,Apart.nil_left _⟩,hE0.trans (by (repeat (refine Ext.setCell ?_ (Nat.le_refl _) _));exact hAc.trans hE1)⟩
 · go_enter Tryz.func33,Tryz.ntmps33
   go_wp2_with fail
   rw[←Hwb.out,←Hwc.out];rw[Hsz.out]
   refine (sSmallCoset_any _ _ _ _ (hgc _ hE)).mono ?_
   rw[hs]
   rintro e w1 ⟨rfl,hE1⟩
   have kb:=hbc _ hE1
   go_wp2_with fail
   refine (l33Group_any _ _ _ (hgc _ hE1)).mono ?_
   rintro e w2 ⟨ao,c,rfl,hO,hE2⟩
   have hr:=hRc.ext (hE1.trans hE2)
   unfold Res at hr
   have hw1:wb.heap.size<w1.heap.size:=Nat.lt_of_lt_of_le hwc hE1.size
   go_wp2_with fail
   exact bodyPost_ret (v:=.tuple #[CV 7 (.slice ao l.length c) (.slice none 0 0) a 0 (scS l a) (scD l a) (.slice none 0 0) (.slice none 0 0) 0,.bool true]) (by simp[results,Tryz.results33,go_sem,hr,CV]) rfl ⟨_,_,_,_,by simp;rfl,⟨(show Own 3 w1 _ _ _ by (repeat (refine Own.setCell_below ?_ hw1 _));exact hO).mono (hE0.trans (hAc.trans hE1)),Own.nil _ _ _,Own.nil _ _ _,Own.nil _ _ _,Apart.nil_right _,Apart.nil_right _,Apart.nil_right _,Apart.nil_left _,Apart.nil_left _,Apart.nil_left _⟩,hE0.trans (by (repeat (refine Ext.setCell ?_ (Nat.le_refl _) _));exact hAc.trans (hE1.trans hE2))⟩
end Go.Zz
