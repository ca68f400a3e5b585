/- Elements and sets: add, shift, sum, areSets, FullSet. -/
import Derived.Test.YtdlbbpeahicakaaGreatGr2
import Derived.Deep.RegionHeld3
import Derived.Deep.RegionWith
namespace Go.Zz
open Go.RowKit Go.Proofs
set_option maxHeartbeats 400000
theorem add_inv{s u t A:Nat}(h:s+u*t=A)(hA:A<24):s<24:=by omega
theorem wrapN(n:Nat)(h:n≤9223372036854775807):wrap64 (n:Int)=(n:Int):=IntWalk.wrap64_in _ (by omega)
theorem div_val{x q:Nat}(hx:x≤16777216):Value.int .i64 (wrap64 ((x:Int) / (q:Int)))=.int .i64 ((x / q:Nat):Int):=by
 have h:=Nat.div_le_self x q
 rw[show ((x:Int) / (q:Int))=((x / q:Nat):Int) from (Int.natCast_ediv x q).symm]
 generalize x / q=d at h ⊢
 rw[wrapN d (by omega)]
theorem mul_val(u q:Nat):Value.int .i64 ((u:Int)*(q:Int))=.int .i64 ((u*q:Nat):Int):=by rw[Int.natCast_mul]
theorem step_val{x y q s u:Nat}(hs:s<24)(h0:0≤((x:Int) % (q:Int)+(y:Int) % (q:Int)) % (q:Int)*(u:Int))(h1:((x:Int) % (q:Int)+(y:Int) % (q:Int)) % (q:Int)*(u:Int)≤331776) :
 Value.int .i64 (wrap64 ((s:Int)+wrap64 (((x:Int)+(y:Int)) % (q:Int)*(u:Int))))=.int .i64 ((s+((x % q+y % q) % q)*u:Nat):Int):=by
 have c2:((((x % q+y % q) % q)*u:Nat):Int)=((x:Int) % (q:Int)+(y:Int) % (q:Int)) % (q:Int)*(u:Int):=by
  rw[Int.natCast_mul,Int.natCast_emod,Int.natCast_add,Int.natCast_emod,Int.natCast_emod]
 rw[←c2] at h0 h1
 rw[show ((x:Int)+(y:Int)) % (q:Int)*(u:Int)=((((x % q+y % q) % q)*u:Nat):Int) from by rw[c2,Int.add_emod]]
 generalize ((x % q+y % q) % q)*u=d at h0 h1 ⊢
 rw[wrapN d (by omega),←Int.natCast_add,wrapN (s+d) (by omega)]
theorem add_next{s u d q t A:Nat}(h:s+u*(d+q*t)=A):(s+d*u)+(u*q)*t=A:=by
 rw[Nat.mul_add,←Nat.mul_assoc,Nat.mul_comm u d] at h;omega
theorem add_any(v:Value)(l:List Int)(x y:Nat)(w:World)(h:Ints w v l)(Hgr:Hid (isGrp l=true))(hx:x<16777216)(hy:y<16777216) :
 Calls Tryz.prog 194 #[.agg #[v],.int .i64 x,.int .i64 y] w fun e w'=>e=.returned (.int .i64 (addF l x y))∧Ext w w':=by
 obtain⟨ao,c,adr,rfl,hlen,hadr,hcell⟩:=h.op
 have hix:=ints_index (c:=c) elI szI hadr
 clear hadr h
 obtain⟨wb,hwb⟩:∃wb,wb=w.alloc (.cells #[.slice ao l.length c] 27):=⟨_,rfl⟩
 have hE0:=(Ext.refl w).alloc (.cells #[.slice ao l.length c] 27)
 rw[←hwb] at hE0
 have hE:=Ext.refl wb
 have Hwb:=Lib.hid hwb
 have hA:=addF_bd Hgr.out x y
 have h3:=isGrp_len Hgr.out
 clear hwb
 go_enter Tryz.func194,Tryz.ntmps194
 go_wp2_with fail
 rw[←Hwb.out]
 go_loopw [1,2,7,8,14] (fun xv yv sv uv i wr=>∃k x' y' s u:Nat,k≤l.length∧x'≤x∧y'≤y∧s+u*addF (l.drop k) x' y'=addF l x y∧(u:Int)=prodL (l.take k)∧xv=.int .i64 x'∧yv=.int .i64 y'∧sv=.int .i64 s∧uv=.int .i64 u∧i=.int .i64 k∧Ext wb wr) (fun _ _ _ _ i _=>l.length - (intOf i).toNat)
 case atStart=>exact⟨0,x,y,0,1,by omega,by omega,by omega,by simp,by simp[prodL],rfl,rfl,rfl,rfl,rfl,hE⟩
 case round =>
  clear hE
  obtain⟨k,x',y',s,u,hk,hx',hy',hs,hu,rfl,rfl,rfl,rfl,rfl,hE⟩:=hrel
  have hsb:=add_inv hs hA
  obtain⟨hu1,hu2⟩:=prodL_bd3 k l hk (by omega) (fun j hj=>isGrp_nth Hgr.out (by omega))
  rw[←hu] at hu1 hu2
  have Hs:=Lib.hid hs
  have Hu:=Lib.hid hu
  clear hs hu hA
  by_cases hlt:k<l.length
  · have hck:=hcell k _ hlt (hE0.trans hE)
    obtain⟨hq1,hq2⟩:=isGrp_nth Hgr.out hlt
    obtain⟨q,hq⟩:=Int.eq_ofNat_of_zero_le (show 0≤nth l k by omega)
    have Hst:=Lib.hid (addF_step hlt hq x' y')
    have hu':nth l k*prodL (l.take k)=prodL (l.take (k+1)):=by rw[prodL_take l k hlt,Int.mul_comm]
    have Hu2:=Lib.hid hu'
    rw[hq] at hq1 hq2
    have Hq:=Lib.hid hq
    have hd:(x' % q+y' % q) % q<24:=Nat.lt_of_lt_of_le (Nat.mod_lt _ (by omega)) (by omega)
    have hm1:((x' % q+y' % q) % q)*u≤24*13824:=Nat.mul_le_mul (by omega) (by omega)
    have hm2:u*q≤13824*24:=Nat.mul_le_mul (by omega) (by omega)
    have c1:((x' % q+y' % q:Nat):Int)=(x':Int) % (q:Int)+(y':Int) % (q:Int):=by simp
    have c2:((((x' % q+y' % q) % q)*u:Nat):Int)=((x':Int) % (q:Int)+(y':Int) % (q:Int)) % (q:Int)*(u:Int):=by rw[Int.natCast_mul,Int.natCast_emod,c1]
    have c3:((u*q:Nat):Int)=(u:Int)*(q:Int):=Int.natCast_mul _ _
    have b1:(x':Int) % (q:Int)<24:=by have:=Int.emod_lt_of_pos (x':Int) (show (0:Int)<q by omega);omega
    have b2:(y':Int) % (q:Int)<24:=by have:=Int.emod_lt_of_pos (y':Int) (show (0:Int)<q by omega);omega
    have b3:0≤(x':Int) % (q:Int):=Int.emod_nonneg _ (by omega)
    have b4:0≤(y':Int) % (q:Int):=Int.emod_nonneg _ (by omega)
    have b5:((x':Int) % (q:Int)+(y':Int) % (q:Int)) % (q:Int)*(u:Int)≤331776:=by rw[←c2];omega
    have b6:0≤((x':Int) % (q:Int)+(y':Int) % (q:Int)) % (q:Int)*(u:Int):=by rw[←c2];omega
    have b7:(u:Int)*(q:Int)≤331776:=by rw[←c3];omega
    have b8:0≤(u:Int)*(q:Int):=by rw[←c3];omega
    have C2:=Lib.hid c2
    have C3:=Lib.hid c3
    clear c1 c2 c3 hd hm1 hm2 hu'
    go_wp2_with fail
    (refine wp_region_lat (wb) (by kernel_rfl) (by kernel_rfl) hE ?_);(repeat (go_big_quiet_step (first | fail)));(refine wpQuiet_nil ?_);(intro W hE');(replace hE:=lat_of hE');(clear hE')
    go_wp2_with fail
    (refine wp_region_lat (wb) (by kernel_rfl) (by kernel_rfl) hE ?_);(repeat (go_big_quiet_step (first | fail)));(refine wpQuiet_nil ?_);(intro W hE');(replace hE:=lat_of hE');(clear hE')
    go_wp2_with fail
    go_roundw
    case rel =>
     refine⟨k+1,x' / q,y' / q,s+((x' % q+y' % q) % q)*u,u*q,by omega,Nat.le_trans (Nat.div_le_self _ _) hx',Nat.le_trans (Nat.div_le_self _ _) hy',?_,?_,?_,?_,?_,?_,by go_num,hE⟩
     · apply add_next
       rw[←Hst.out];exact Hs.out
     · rw[←Hu2.out,←Hu.out,Hq.out];push_cast;rw[Int.mul_comm]
     · exact div_val (Nat.le_trans hx' (Nat.le_of_lt hx))
     · exact div_val (Nat.le_trans hy' (Nat.le_of_lt hy))
     · exact step_val hsb b6 b5
     · exact mul_val u q
    case measure=>(simp[intOf];omega)
  · have hkl:k=l.length:=by omega
    subst hkl
    go_wp2_with fail
    go_ret
    exact⟨ret_int (by have:=Hs.out;rw[List.drop_length] at this;simp[addF] at this;omega),hE0.trans hE⟩
end Go.Zz
namespace Go.Zz
open Go.RowKit Go.Proofs
set_option maxHeartbeats 400000
theorem l2Add_any(v:Value)(l:List Int)(x y:Nat)(w:World)(h:Ints w v l)(Hgr:Hid (isGrp l=true))(hx:x<16777216)(hy:y<16777216) :
 Calls Tryz.prog 141 #[.agg #[v],.int .i64 x,.int .i64 y] w fun e w'=>e=.returned (.int .i64 (addF l x y))∧Ext w w':=by
 obtain⟨ao,c,adr,rfl,hlen,hadr,hcell⟩:=h.op
 have hix:=ints_index (c:=c) elI szI hadr
 clear hadr h
 obtain⟨wb,hwb⟩:∃wb,wb=w.alloc (.cells #[.slice ao l.length c] 27):=⟨_,rfl⟩
 have hE0:=(Ext.refl w).alloc (.cells #[.slice ao l.length c] 27)
 have hb:=box_cell w (.slice ao l.length c) 27
 rw[←hwb] at hE0 hb
 have hE:=Ext.refl wb
 have Hwb:=Lib.hid hwb
 have hA:=addF_bd Hgr.out x y
 have h3:=isGrp_len Hgr.out
 clear hwb
 go_enter Tryz.func141,Tryz.ntmps141
 go_wp2_with fail
 rw[←Hwb.out]
 go_loopw [1,2,7,8,9] (fun xv yv sv uv i wr=>∃k x' y' s u:Nat,k≤l.length∧x'≤x∧y'≤y∧s+u*addF (l.drop k) x' y'=addF l x y∧(u:Int)=prodL (l.take k)∧xv=.int .i64 x'∧yv=.int .i64 y'∧sv=.int .i64 s∧uv=.int .i64 u∧i=.int .i64 k∧Ext wb wr) (fun _ _ _ _ i _=>l.length - (intOf i).toNat)
 case atStart=>exact⟨0,x,y,0,1,by omega,by omega,by omega,by simp,by simp[prodL],rfl,rfl,rfl,rfl,rfl,hE⟩
 case round =>
  clear hE
  obtain⟨k,x',y',s,u,hk,hx',hy',hs,hu,rfl,rfl,rfl,rfl,rfl,hE⟩:=hrel
  have hsb:=add_inv hs hA
  have hbx:=hb wr hE
  obtain⟨hu1,hu2⟩:=prodL_bd3 k l hk (by omega) (fun j hj=>isGrp_nth Hgr.out (by omega))
  rw[←hu] at hu1 hu2
  have Hs:=Lib.hid hs
  have Hu:=Lib.hid hu
  clear hs hu hA
  by_cases hlt:k<l.length
  · have hck:=hcell k _ hlt (hE0.trans hE)
    obtain⟨hq1,hq2⟩:=isGrp_nth Hgr.out hlt
    obtain⟨q,hq⟩:=Int.eq_ofNat_of_zero_le (show 0≤nth l k by omega)
    have Hst:=Lib.hid (addF_step hlt hq x' y')
    have hu':nth l k*prodL (l.take k)=prodL (l.take (k+1)):=by rw[prodL_take l k hlt,Int.mul_comm]
    have Hu2:=Lib.hid hu'
    rw[hq] at hq1 hq2
    have Hq:=Lib.hid hq
    have hd:(x' % q+y' % q) % q<24:=Nat.lt_of_lt_of_le (Nat.mod_lt _ (by omega)) (by omega)
    have hm1:((x' % q+y' % q) % q)*u≤24*13824:=Nat.mul_le_mul (by omega) (by omega)
    have hm2:u*q≤13824*24:=Nat.mul_le_mul (by omega) (by omega)
    have c1:((x' % q+y' % q:Nat):Int)=(x':Int) % (q:Int)+(y':Int) % (q:Int):=by simp
    have c2:((((x' % q+y' % q) % q)*u:Nat):Int)=((x':Int) % (q:Int)+(y':Int) % (q:Int)) % (q:Int)*(u:Int):=by rw[Int.natCast_mul,Int.natCast_emod,c1]
    have c3:((u*q:Nat):Int)=(u:Int)*(q:Int):=Int.natCast_mul _ _
    have b1:(x':Int) % (q:Int)<24:=by have:=Int.emod_lt_of_pos (x':Int) (show (0:Int)<q by omega);omega
    have b2:(y':Int) % (q:Int)<24:=by have:=Int.emod_lt_of_pos (y':Int) (show (0:Int)<q by omega);omega
    have b3:0≤(x':Int) % (q:Int):=Int.emod_nonneg _ (by omega)
    have b4:0≤(y':Int) % (q:Int):=Int.emod_nonneg _ (by omega)
    have b5:((x':Int) % (q:Int)+(y':Int) % (q:Int)) % (q:Int)*(u:Int)≤331776:=by rw[←c2];omega
    have b6:0≤((x':Int) % (q:Int)+(y':Int) % (q:Int)) % (q:Int)*(u:Int):=by rw[←c2];omega
    have b7:(u:Int)*(q:Int)≤331776:=by rw[←c3];omega
    have b8:0≤(u:Int)*(q:Int):=by rw[←c3];omega
    have C2:=Lib.hid c2
    have C3:=Lib.hid c3
    clear c1 c2 c3 hd hm1 hm2 hu'
    go_wp2_with fail
    (refine wp_region_lat (wb) (by kernel_rfl) (by kernel_rfl) hE ?_);(repeat (go_big_quiet_step (first | fail)));(refine wpQuiet_nil ?_);(intro W hE');(replace hE:=lat_of hE');(clear hE')
    go_wp2_with fail
    go_roundw
    case rel =>
     refine⟨k+1,x' / q,y' / q,s+((x' % q+y' % q) % q)*u,u*q,by omega,Nat.le_trans (Nat.div_le_self _ _) hx',Nat.le_trans (Nat.div_le_self _ _) hy',?_,?_,?_,?_,?_,?_,by go_num,hE⟩
     · apply add_next
       rw[←Hst.out];exact Hs.out
     · rw[←Hu2.out,←Hu.out,Hq.out];push_cast;rw[Int.mul_comm]
     · exact div_val (Nat.le_trans hx' (Nat.le_of_lt hx))
     · exact div_val (Nat.le_trans hy' (Nat.le_of_lt hy))
     · exact step_val hsb b6 b5
     · exact mul_val u q
    case measure=>(simp[intOf];omega)
  · have hkl:k=l.length:=by omega
    subst hkl
    go_wp2_with fail
    go_ret
    exact⟨ret_int (by have:=Hs.out;rw[List.drop_length] at this;simp[addF] at this;omega),hE0.trans hE⟩
end Go.Zz
namespace Go.Zz
open Go.RowKit Go.Proofs
set_option maxHeartbeats 400000
theorem Ints.nats{w:World}{v:Value}{L:List Nat}(h:Ints w v (castL L)) :
 ∃(ao:Option Addr) (c:Nat) (adr:Nat→Addr),v=.slice ao L.length c ∧
  (∀i,i<L.length→ao=some (adr 0)∧adr i=(adr 0).add i) ∧
  (∀i W,i<L.length→Ext w W→W.cell? (adr i)=some (.int .i64 (nthN L i:Int))):=by
 obtain⟨ao,c,adr,rfl,_,h2,h3⟩:=h.op
 rw[castL_len] at h2 h3
 exact⟨ao,c,adr,by rw[castL_len],h2,fun i W hi hW=>by rw[h3 i W hi hW,nth_castL]⟩
def shiftL(l:List Int)(L:List Nat)(x:Nat):Nat:=bset (L.map (fun y=>addF l x y))
theorem shiftL_snoc(l:List Int)(L:List Nat)(y x:Nat):shiftL l (L++[y]) x=shiftL l L x ||| 2 ^ addF l x y:=by
 unfold shiftL;rw[List.map_append];exact bset_snoc _ _
theorem shiftL_all(l:List Int)(a x:Nat):shiftL l (elems a) x=shiftF l a x:=rfl
theorem shiftL_bd{l:List Int}(h:isGrp l=true)(L:List Nat)(x:Nat):shiftL l L x<2 ^ 24:=by
 refine bset_lt fun y hy=>?_
 obtain⟨z,_,rfl⟩:=List.mem_map.1 hy
 exact addF_bd h _ _
theorem shiftL_next(l:List Int)(a k x:Nat)(hb:a.testBit k=true):shiftL l (elemsTo a (k+1)) x=shiftL l (elemsTo a k) x ||| 2 ^ addF l x k:=by
 rw[elemsTo_succ,hb,if_pos rfl,shiftL_snoc]
theorem shiftL_same(l:List Int)(a k x:Nat)(hb:a.testBit k=false):shiftL l (elemsTo a (k+1)) x=shiftL l (elemsTo a k) x:=by
 rw[elemsTo_succ,hb];simp
theorem shift_any(v:Value)(l:List Int)(a x:Nat)(w:World)(h:Ints w v l)(Hgr:Hid (isGrp l=true))(ha:a<2 ^ 24)(hx:x<24) :
 Calls Tryz.prog 166 #[.agg #[v],.int .i64 a,.int .i64 x] w fun e w'=>e=.returned (.int .i64 (shiftF l a x))∧Ext w w':=by
 obtain⟨wb,hwb⟩:∃wb,wb=w.alloc (.cells #[v] 27):=⟨_,rfl⟩
 have hE0:=(Ext.refl w).alloc (.cells #[v] 27)
 have hb:=box_cell w v 27
 rw[←hwb] at hE0 hb
 have hg:∀W,Ext wb W→Ints W v l:=fun W hW=>h.ext (hE0.trans hW)
 have hE:=Ext.refl wb
 have Hwb:=Lib.hid hwb
 clear hwb h
 go_enter Tryz.func166,Tryz.ntmps166
 go_wp2_with fail
 rw[←Hwb.out]
 go_loopw [7,8] (fun ov yv wr=>∃k:Nat,k≤24∧yv=.int .i64 k∧ov=.int .i64 ((shiftL l (elemsTo a k) x:Nat):Int)∧Ext wb wr) (fun _ y _=>24 - (intOf y).toNat)
 case atStart=>exact⟨0,by omega,rfl,by simp[shiftL,elemsTo,bset],hE⟩
 case round =>
  clear hE
  obtain⟨k,hk,rfl,rfl,hE⟩:=hrel
  have hbx:=hb wr hE
  have hsh:=ishr_nat (a:=a) (n:=k) (by omega)
  by_cases h0:shr a k=0
  · have he:=Lib.hid (elemsTo_all hk (shr_zero.1 h0))
    have h0':((shr a k:Nat):Int)=0:=by rw[h0];rfl
    clear h0
    go_wp2_with fail
    go_ret
    exact⟨ret_int (by rw[he.out];rfl),hE0.trans hE⟩
  · have hlt:=shr_pos h0 ha
    have hne:=ne_zero_t h0
    have hbt:=bit_test' (a:=a) (n:=k) (by omega) (by omega)
    clear h0
    cases hb:a.testBit k
    · rw[hb] at hbt
      have Hb:=Lib.hid (shiftL_same l a k x hb)
      clear hb
      go_wp2_with fail
      go_roundw
      case rel=>exact⟨k+1,by omega,by go_num,by rw[Hb.out],hE⟩
      case measure=>(simp[intOf];omega)
    · rw[hb] at hbt
      have Hb:=Lib.hid (shiftL_next l a k x hb)
      have hz:=addF_bd Hgr.out x k
      have hs1:=ishl_one (n:=addF l x k) (by omega)
      have hs2:=ior_pw (shiftL_bd Hgr.out (elemsTo a k) x) hz
      clear hb
      go_wp2_with (first | (go_at_call 194;refine (add_any _ _ _ _ _ (hg _ hE) (Hgr) ((by omega)) ((by omega))).mono ?_;rintro e w' ⟨rfl,hE'⟩;replace hE:=hE.trans hE';clear hE'))
      go_roundw
      case rel=>exact⟨k+1,by omega,by go_num,by rw[Hb.out],hE⟩
      case measure=>(simp[intOf];omega)
theorem l3Shift_any(v:Value)(l:List Int)(a x:Nat)(w:World)(h:Ints w v l)(Hgr:Hid (isGrp l=true))(ha:a<2 ^ 24)(hx:x<24) :
 Calls Tryz.prog 143 #[.agg #[v],.int .i64 a,.int .i64 x] w fun e w'=>e=.returned (.int .i64 (shiftF l a x))∧Ext w w':=by
 obtain⟨wb,hwb⟩:∃wb,wb=w.alloc (.cells #[v] 27):=⟨_,rfl⟩
 have hE0:=(Ext.refl w).alloc (.cells #[v] 27)
 have hb:=box_cell w v 27
 rw[←hwb] at hE0 hb
 have hg:∀W,Ext wb W→Ints W v l:=fun W hW=>h.ext (hE0.trans hW)
 have Hwb:=Lib.hid hwb
 clear hwb h
 go_enter Tryz.func143,Tryz.ntmps143
 go_wp2_with fail
 rw[←Hwb.out]
 go_wp2_with (first | (go_at_call 108;refine (l3List_any _ (ha) _).mono ?_;rintro e w1 ⟨v1,rfl,hL,hE1⟩;obtain⟨aoL,cL,adrL,rfl,hadrL,hcellL⟩:=hL.ints.nats;have hixL:=ints_index (c:=cL) elI szI hadrL;clear hadrL))
 have hb1:∀W,Ext w1 W→W.cell? ⟨w.heap.size,0,none⟩=some v:=fun W hW=>hb W (hE1.trans hW)
 have hg1:∀W,Ext w1 W→Ints W v l:=fun W hW=>hg W (hE1.trans hW)
 have hE:=Ext.refl w1
 clear hb hg hL
 have hall:∀y∈elems a,y<24:=fun y hy=>elems_lt hy
 have hlen:=elems_len a
 have Hd:=Lib.hid (shiftL_all l a x)
 generalize elems a=L at hcellL hixL hall hlen Hd ⊢
 go_loopw [7,9] (fun ov i wr=>∃k:Nat,k≤L.length∧i=.int .i64 k∧ov=.int .i64 ((shiftL l (L.take k) x:Nat):Int)∧Ext w1 wr) (fun _ i _=>L.length - (intOf i).toNat)
 case atStart=>exact⟨0,by omega,rfl,by simp[shiftL,bset],hE⟩
 case round =>
  clear hE
  obtain⟨k,hk,rfl,rfl,hE⟩:=hrel
  by_cases hlt:k<L.length
  · have hck:=fun U=>hcellL k _ hlt (lat_ext w1 U)
    have hbx:=fun U=>hb1 _ (lat_ext w1 U)
    have hby:=hall _ (nthN_mem hlt)
    have Ht:=Lib.hid (shiftL_snoc l (L.take k) (nthN L k) x)
    have Ht2:=Lib.hid (take_nthN L k hlt)
    have hz:=addF_bd Hgr.out x (nthN L k)
    have hcm:=Lib.hid (addF_comm l (nthN L k) x)
    have hs1:=ishl_one (n:=addF l (nthN L k) x) (by rw[hcm.out];omega)
    have hs2:=ior_pw (shiftL_bd Hgr.out (L.take k) x) (show addF l (nthN L k) x<24 by rw[hcm.out];omega)
    go_wp2_with fail
    (refine wp_region_lat (w1) (by kernel_rfl) (by kernel_rfl) hE ?_);(repeat (go_big_quiet_step (first | (go_at_call 141;exact Calls.lat (l2Add_any _ _ _ _ _ (hg1 _ (lat_ext w1 _)) (Hgr) ((by omega)) ((by omega)))))));(refine wpQuiet_nil ?_);(intro W hE');(replace hE:=lat_of hE');(clear hE')
    go_wp2_with fail
    go_roundw
    case rel=>exact⟨k+1,by omega,by go_num,by rw[Ht2.out,Ht.out,hcm.out],hE⟩
    case measure=>(simp[intOf];omega)
  · have hkl:k=L.length:=by omega
    subst hkl
    go_wp2_with fail
    go_ret
    exact⟨ret_int (by rw[List.take_length,Hd.out]),hE0.trans (hE1.trans hE)⟩
end Go.Zz
namespace Go.Zz
open Go.RowKit Go.Proofs
set_option maxHeartbeats 400000
theorem sum_any(v:Value)(l:List Int)(a b:Nat)(w:World)(h:Ints w v l)(Hgr:Hid (isGrp l=true))(ha:a<2 ^ 24)(hb':b<2 ^ 24) :
 Calls Tryz.prog 79 #[.agg #[v],.int .i64 a,.int .i64 b] w fun e w'=>e=.returned (.int .i64 (sumF l a b))∧Ext w w':=by
 obtain⟨wb,hwb⟩:∃wb,wb=w.alloc (.cells #[v] 27):=⟨_,rfl⟩
 have hE0:=(Ext.refl w).alloc (.cells #[v] 27)
 have hb:=box_cell w v 27
 rw[←hwb] at hE0 hb
 have hg:∀W,Ext wb W→Ints W v l:=fun W hW=>h.ext (hE0.trans hW)
 have Hwb:=Lib.hid hwb
 clear hwb h
 go_enter Tryz.func79,Tryz.ntmps79
 go_wp2_with fail
 rw[←Hwb.out]
 go_wp2_with (first | (go_at_call 153;refine (members_any _ (ha) _).mono ?_;rintro e w1 ⟨v1,rfl,hL,hE1⟩;obtain⟨aoL,cL,adrL,rfl,hadrL,hcellL⟩:=hL.ints.nats;have hixL:=ints_index (c:=cL) elI szI hadrL;clear hadrL))
 have hb1:∀W,Ext w1 W→W.cell? ⟨w.heap.size,0,none⟩=some v:=fun W hW=>hb W (hE1.trans hW)
 have hg1:∀W,Ext w1 W→Ints W v l:=fun W hW=>hg W (hE1.trans hW)
 have hE:=Ext.refl w1
 clear hb hg hL
 have hall:∀y∈elems a,y<24:=fun y hy=>elems_lt hy
 have hlen:=elems_len a
 have Hd:=Lib.hid (sumTo_all l a b)
 generalize elems a=L at hcellL hixL hall hlen Hd ⊢
 go_loopw [7,13] (fun ov i wr=>∃k:Nat,k≤L.length∧i=.int .i64 k∧ov=.int .i64 ((sumTo l (L.take k) b:Nat):Int)∧Ext w1 wr) (fun _ i _=>L.length - (intOf i).toNat)
 case atStart=>exact⟨0,by omega,rfl,by simp[sumTo,bset],hE⟩
 case round =>
  clear hE
  obtain⟨k,hk,rfl,rfl,hE⟩:=hrel
  by_cases hlt:k<L.length
  · have hck:=hcellL k _ hlt hE
    have hbx:=hb1 _ hE
    have hby:=hall _ (nthN_mem hlt)
    have Ht:=Lib.hid (sumTo_snoc l (L.take k) (nthN L k) b)
    have Ht2:=Lib.hid (take_nthN L k hlt)
    have hs:=sumTo_bd Hgr.out (L.take k) b
    have hf:=shiftF_bd Hgr.out b (nthN L k)
    have hs2:=ior_nat (show sumTo l (L.take k) b<2 ^ 63 by omega) (show shiftF l b (nthN L k)<2 ^ 63 by omega)
    go_wp2_with (first | (go_at_call 166;refine (shift_any _ _ _ _ _ (hg1 _ hE) (Hgr) (hb') (hby)).mono ?_;rintro e w' ⟨rfl,hE'⟩;replace hE:=hE.trans hE';clear hE'))
    go_roundw
    case rel=>exact⟨k+1,by omega,by go_num,by rw[Ht2.out,Ht.out],hE⟩
    case measure=>(simp[intOf];omega)
  · have hkl:k=L.length:=by omega
    subst hkl
    go_wp2_with fail
    go_ret
    exact⟨ret_int (by rw[List.take_length,Hd.out]),hE0.trans (hE1.trans hE)⟩
theorem l4Sum_any(v:Value)(l:List Int)(a b:Nat)(w:World)(h:Ints w v l)(Hgr:Hid (isGrp l=true))(ha:a<2 ^ 24)(hb':b<2 ^ 24) :
 Calls Tryz.prog 84 #[.agg #[v],.int .i64 a,.int .i64 b] w fun e w'=>e=.returned (.int .i64 (sumF l a b))∧Ext w w':=by
 obtain⟨wb,hwb⟩:∃wb,wb=w.alloc (.cells #[v] 27):=⟨_,rfl⟩
 have hE0:=(Ext.refl w).alloc (.cells #[v] 27)
 have hb:=box_cell w v 27
 rw[←hwb] at hE0 hb
 have hg:∀W,Ext wb W→Ints W v l:=fun W hW=>h.ext (hE0.trans hW)
 have Hwb:=Lib.hid hwb
 clear hwb h
 go_enter Tryz.func84,Tryz.ntmps84
 go_wp2_with fail
 rw[←Hwb.out]
 go_wp2_with (first | (go_at_call 108;refine (l3List_any _ (hb') _).mono ?_;rintro e w1 ⟨v1,rfl,hL,hE1⟩;obtain⟨aoL,cL,adrL,rfl,hadrL,hcellL⟩:=hL.ints.nats;have hixL:=ints_index (c:=cL) elI szI hadrL;clear hadrL))
 have hb1:∀W,Ext w1 W→W.cell? ⟨w.heap.size,0,none⟩=some v:=fun W hW=>hb W (hE1.trans hW)
 have hg1:∀W,Ext w1 W→Ints W v l:=fun W hW=>hg W (hE1.trans hW)
 have hE:=Ext.refl w1
 clear hb hg hL
 have hall:∀y∈elems b,y<24:=fun y hy=>elems_lt hy
 have hlen:=elems_len b
 have Hd:Hid (sumTo l (elems b) a=sumF l a b):=Lib.hid (by rw[sumTo_all,sumF_comm])
 generalize elems b=L at hcellL hixL hall hlen Hd ⊢
 go_loopw [7,9] (fun ov i wr=>∃k:Nat,k≤L.length∧i=.int .i64 k∧ov=.int .i64 ((sumTo l (L.take k) a:Nat):Int)∧Ext w1 wr) (fun _ i _=>L.length - (intOf i).toNat)
 case atStart=>exact⟨0,by omega,rfl,by simp[sumTo,bset],hE⟩
 case round =>
  clear hE
  obtain⟨k,hk,rfl,rfl,hE⟩:=hrel
  by_cases hlt:k<L.length
  · have hck:=fun U=>hcellL k _ hlt (lat_ext w1 U)
    have hbx:=fun U=>hb1 _ (lat_ext w1 U)
    have hby:=hall _ (nthN_mem hlt)
    have Ht:=Lib.hid (sumTo_snoc l (L.take k) (nthN L k) a)
    have Ht2:=Lib.hid (take_nthN L k hlt)
    have hs:=sumTo_bd Hgr.out (L.take k) a
    have hf:=shiftF_bd Hgr.out a (nthN L k)
    have hs2:=ior_nat (show sumTo l (L.take k) a<2 ^ 63 by omega) (show shiftF l a (nthN L k)<2 ^ 63 by omega)
    go_wp2_with fail
    (refine wp_region_lat (w1) (by kernel_rfl) (by kernel_rfl) hE ?_);(repeat (go_big_quiet_step (first | (go_at_call 143;exact Calls.lat (l3Shift_any _ _ _ _ _ (hg1 _ (lat_ext w1 _)) (Hgr) (ha) (hby))))));(refine wpQuiet_nil ?_);(intro W hE');(replace hE:=lat_of hE');(clear hE')
    go_wp2_with fail
    go_roundw
    case rel=>exact⟨k+1,by omega,by go_num,by rw[Ht2.out,Ht.out],hE⟩
    case measure=>(simp[intOf];omega)
  · have hkl:k=L.length:=by omega
    subst hkl
    go_wp2_with fail
    go_ret
    exact⟨ret_int (by rw[List.take_length,Hd.out]),hE0.trans (hE1.trans hE)⟩
theorem areF_no{l xs:List Int}{k:Nat}(hk:k<xs.length)(h:isSetB l (nth xs k)=false):areF l xs=false:=by
 unfold areF
 have:xs.all (isSetB l)=false:=by
  cases e:xs.all (isSetB l)
  · rfl
  · rw[List.all_eq_true.1 e _ (nth_mem hk)] at h;cases h
 rw[this];rfl
theorem areF_end{l xs:List Int}(h:∀j,j<xs.length→isSetB l (nth xs j)=true):areF l xs=isGrp l:=by
 unfold areF
 rw[show xs.all (isSetB l)=true from List.all_eq_true.2 fun x hx=>by obtain⟨k,hk,rfl⟩:=mem_nth hx;exact h k hk];rfl
theorem areSets_any(v u:Value)(l xs:List Int)(w:World)(h:Ints w v l)(k:Ints w u xs) :
 Calls Tryz.prog 133 #[.agg #[v],u] w fun e w'=>e=.returned (.bool (areF l xs))∧Ext w w':=by
 obtain⟨wb,hwb⟩:∃wb,wb=w.alloc (.cells #[v] 27):=⟨_,rfl⟩
 have hE0:=(Ext.refl w).alloc (.cells #[v] 27)
 have hb:=box_cell w v 27
 rw[←hwb] at hE0 hb
 have hg:∀W,Ext wb W→Ints W v l:=fun W hW=>h.ext (hE0.trans hW)
 obtain⟨ao,c,adr,rfl,hlen,hadr,hcell⟩:=k.op
 have hix:=ints_index (c:=c) elI szI hadr
 clear hadr k
 have hE:=Ext.refl wb
 have Hwb:=Lib.hid hwb
 clear hwb h
 go_enter Tryz.func133,Tryz.ntmps133
 go_wp2_with fail
 rw[←Hwb.out]
 go_loopw [9] (fun i wr=>∃k:Nat,k≤xs.length∧i=.int .i64 k∧(∀j,j<k→isSetB l (nth xs j)=true)∧Ext wb wr) (fun i _=>xs.length - (intOf i).toNat)
 case atStart=>exact⟨0,by omega,rfl,by omega,hE⟩
 case round =>
  clear hE
  obtain⟨k,hk,rfl,hall,hE⟩:=hrel
  have Hall:=Lib.hid hall
  clear hall
  have hbx:=hb _ hE
  by_cases hlt:k<xs.length
  · have hck:=hcell k _ hlt (hE0.trans hE)
    cases hs:isSetB l (nth xs k)
    · have Hs:=Lib.hid (areF_no hlt hs)
      go_wp2_with (first | (go_at_call 152;refine (IsSet_any _ _ _ _ (hg _ hE)).mono ?_;rintro e w' ⟨rfl,hE'⟩;replace hE:=hE.trans hE';clear hE'))
      go_ret
      exact⟨ret_bool Hs.out.symm,hE0.trans hE⟩
    · have Hs:=Lib.hid hs
      go_wp2_with (first | (go_at_call 152;refine (IsSet_any _ _ _ _ (hg _ hE)).mono ?_;rintro e w' ⟨rfl,hE'⟩;replace hE:=hE.trans hE';clear hE'))
      go_roundw
      case rel=>exact⟨k+1,by omega,by go_num,fun j hj=>by by_cases e:j=k;(subst e;exact Hs.out);exact Hall.out j (by omega),hE⟩
      case measure=>(simp[intOf];omega)
  · have hkl:k=xs.length:=by omega
    subst hkl
    go_wp2_with (first | (go_at_call 131;refine (IsGroup_any _ _ _ (hg _ hE)).mono ?_;rintro e w' ⟨rfl,hE'⟩;replace hE:=hE.trans hE';clear hE'))
    go_ret
    exact⟨ret_bool (areF_end Hall.out).symm,hE0.trans hE⟩
def fullF(l:List Int):Int:=if isGrp l then ((pw (ord l) - 1:Nat):Int) else 0
theorem fullF_t{l:List Int}(h:isGrp l=true):fullF l=((pw (ord l):Nat):Int) - 1:=by
 unfold fullF;rw[if_pos h];have:=pw_pos (ord l);omega
theorem fullF_f{l:List Int}(h:isGrp l=false):fullF l=0:=by unfold fullF;rw[h];rfl
theorem FullSet_any(v:Value)(l:List Int)(w:World)(h:Ints w v l) :
 Calls Tryz.prog 169 #[.agg #[v]] w fun e w'=>e=.returned (.int .i64 (fullF l))∧Ext w w':=by
 have hE0:=(Ext.refl w).alloc (.cells #[v] 27)
 have hE:=Ext.refl (w.alloc (.cells #[v] 27))
 have hb:=box_cell w v 27
 have hg:∀W,Ext (w.alloc (.cells #[v] 27)) W→Ints W v l:=fun W hW=>h.ext (hE0.trans hW)
 clear h
 cases hs:isGrp l
 · have Hs:=Lib.hid (fullF_f hs)
   go_enter Tryz.func169,Tryz.ntmps169
   go_wp2_with (first | (go_at_call 131;refine (IsGroup_any _ _ _ (hg _ hE)).mono ?_;rintro e w' ⟨rfl,hE'⟩;replace hE:=hE.trans hE';clear hE'))
   go_ret
   exact⟨ret_int Hs.out.symm,hE0.trans hE⟩
 · have Hs:=Lib.hid (fullF_t hs)
   have ho:=ordF_t hs
   have hb1:=ord_bd hs
   have hp1:=pw_pos (ord l)
   have hp2:=pw_le hb1.2
   have hs1:=ishl_one (n:=ord l) (by omega)
   go_enter Tryz.func169,Tryz.ntmps169
   go_wp2_with (first | (go_at_call 131;refine (IsGroup_any _ _ _ (hg _ hE)).mono ?_;rintro e w' ⟨rfl,hE'⟩;replace hE:=hE.trans hE';clear hE') | (go_at_call 157;refine (OrderOf_any _ _ _ (hg _ hE)).mono ?_;rintro e w' ⟨rfl,hE'⟩;replace hE:=hE.trans hE';clear hE'))
   go_ret
   exact⟨ret_int Hs.out.symm,hE0.trans hE⟩
end Go.Zz
namespace Go.Zz
open Go.RowKit Go.Proofs
set_option maxHeartbeats 400000
theorem ints_two(w:World)(a b:Int)(T:TypeId):Ints (w.alloc (.cells #[.int .i64 a,.int .i64 b] T)) (.slice (some ⟨w.heap.size,0,none⟩) 2 2) [a,b]:=by
 refine⟨_,2,rfl,Nat.le_refl _,by simp,fun i hi=>⟨_,rfl,?_⟩⟩
 match i,hi with
 | 0,_=>simp[go_sem,nth,Addr.add]
 | 1,_=>simp[go_sem,nth,Addr.add]
theorem areF_two(l:List Int)(a b:Int):areF l [a,b]=(isSetB l a&&isSetB l b):=by
 unfold areF
 cases h:isSetB l a
 · simp[h]
 · simp[h,isSetB_grp h]
theorem areSets_val(v u:Value)(l xs:List Int)(w:World)(h:Ints w v l)(k:Ints w u xs){b:Bool}(hb:areF l xs=b) :
 Calls Tryz.prog 133 #[.agg #[v],u] w fun e w'=>e=.returned (.bool b)∧Ext w w':=by
 subst hb;exact areSets_any v u l xs w h k
end Go.Zz
namespace Go.Zz
open Go.RowKit Go.Proofs
set_option maxHeartbeats 400000
theorem IsSet_val(v:Value)(l:List Int)(a:Int)(w:World)(h:Ints w v l){b:Bool}(hb:isSetB l a=b) :
 Calls Tryz.prog 152 #[.agg #[v],.int .i64 a] w fun e w'=>e=.returned (.bool b)∧Ext w w':=by
 subst hb;exact IsSet_any v l a w h
theorem sIsSet_val(v:Value)(l:List Int)(a:Int)(w:World)(h:Ints w v l){b:Bool}(hb:isSetB l a=b) :
 Calls Tryz.prog 126 #[.agg #[v],.int .i64 a] w fun e w'=>e=.returned (.bool b)∧Ext w w':=by
 subst hb;exact sIsSet_any v l a w h
def smallF(l:List Int)(a:Int):Bool:=isSetB l a&&decide (a≠0)&&decide (2*cnt (sumF l a.toNat a.toNat)<3*cnt a.toNat)
theorem smallF_no{l:List Int}{a:Int}(h:isSetB l a=false):smallF l a=false:=by unfold smallF;rw[h];rfl
theorem smallF_zero(l:List Int):smallF l 0=false:=by unfold smallF;simp
theorem smallF_yes{l:List Int}{n:Nat}(h:isSetB l n=true)(h0:0<n):smallF l n=decide (2*(cnt (sumF l n n):Int)<3*(cnt n:Int)):=by
 unfold smallF
 rw[h,Bool.eq_iff_iff]
 simp
 omega
theorem IsSmallDoubling_any(v:Value)(l:List Int)(a:Int)(w:World)(h:Ints w v l) :
 Calls Tryz.prog 95 #[.agg #[v],.int .i64 a] w fun e w'=>e=.returned (.bool (smallF l a))∧Ext w w':=by
 have hE0:=(Ext.refl w).alloc (.cells #[v] 27)
 have hE:=Ext.refl (w.alloc (.cells #[v] 27))
 have hb:=box_cell w v 27
 have hg:∀W,Ext (w.alloc (.cells #[v] 27)) W→Ints W v l:=fun W hW=>h.ext (hE0.trans hW)
 clear h
 cases hs:isSetB l a
 · have Hs:=Lib.hid (smallF_no hs)
   go_enter Tryz.func95,Tryz.ntmps95
   go_wp2_with (first | (go_at_call 152;refine (IsSet_any _ _ _ _ (hg _ hE)).mono ?_;rintro e w' ⟨rfl,hE'⟩;replace hE:=hE.trans hE';clear hE'))
   go_ret
   exact⟨ret_bool Hs.out.symm,hE0.trans hE⟩
 · obtain⟨n,rfl,h1,h2,h3⟩:=isSetB_nat hs
   by_cases h0:n=0
   · subst h0
     go_enter Tryz.func95,Tryz.ntmps95
     go_wp2_with (first | (go_at_call 152;refine (IsSet_any _ _ _ _ (hg _ hE)).mono ?_;rintro e w' ⟨rfl,hE'⟩;replace hE:=hE.trans hE';clear hE'))
     go_ret
     exact⟨ret_bool (smallF_zero l).symm,hE0.trans hE⟩
   · have h0':((n:Int) != 0)=true:=by simp;omega
     have h0'':0<(n:Int):=by omega
     have hm:=Lib.hid (smallF_yes hs (by omega))
     have c1:=cnt_le (sumF l n n)
     have c2:=cnt_le n
     have h4:=sumF_bd h3 n n
     have h3':=Lib.hid h3
     clear h3
     go_enter Tryz.func95,Tryz.ntmps95
     go_wp2_with (first | (go_at_call 152;refine (IsSet_any _ _ _ _ (hg _ hE)).mono ?_;rintro e w' ⟨rfl,hE'⟩;replace hE:=hE.trans hE';clear hE') | (go_at_call 79;refine (sum_any _ _ _ _ _ (hg _ hE) (h3') (h2) (h2)).mono ?_;rintro e w' ⟨rfl,hE'⟩;replace hE:=hE.trans hE';clear hE') | (go_at_call 98;first | (with_reducible refine (bits_any _ h4 _).mono ?_;rintro e w' ⟨rfl,rfl⟩) | (with_reducible refine (bits_any _ h2 _).mono ?_;rintro e w' ⟨rfl,rfl⟩)))
     go_ret
     exact⟨ret_bool hm.out.symm,hE0.trans hE⟩
theorem sIsSmallDoubling_any(v:Value)(l:List Int)(a:Int)(w:World)(h:Ints w v l) :
 Calls Tryz.prog 122 #[.agg #[v],.int .i64 a] w fun e w'=>e=.returned (.bool (smallF l a))∧Ext w w':=by
 have hE0:=(Ext.refl w).alloc (.cells #[v] 27)
 have hE:=Ext.refl (w.alloc (.cells #[v] 27))
 have hb:=box_cell w v 27
 have hg:∀W,Ext (w.alloc (.cells #[v] 27)) W→Ints W v l:=fun W hW=>h.ext (hE0.trans hW)
 clear h
 cases hs:isSetB l a
 · have Hs:=Lib.hid (smallF_no hs)
   go_enter Tryz.func122,Tryz.ntmps122
   go_wp2_with (first | (go_at_call 126;refine (sIsSet_any _ _ _ _ (hg _ hE)).mono ?_;rintro e w' ⟨rfl,hE'⟩;replace hE:=hE.trans hE';clear hE'))
   go_ret
   exact⟨ret_bool Hs.out.symm,hE0.trans hE⟩
 · obtain⟨n,rfl,h1,h2,h3⟩:=isSetB_nat hs
   by_cases h0:n=0
   · subst h0
     go_enter Tryz.func122,Tryz.ntmps122
     go_wp2_with (first | (go_at_call 126;refine (sIsSet_any _ _ _ _ (hg _ hE)).mono ?_;rintro e w' ⟨rfl,hE'⟩;replace hE:=hE.trans hE';clear hE'))
     go_ret
     exact⟨ret_bool (smallF_zero l).symm,hE0.trans hE⟩
   · have h0':((n:Int) != 0)=true:=by simp;omega
     have h0'':0<(n:Int):=by omega
     have hm:=Lib.hid (smallF_yes hs (by omega))
     have c1:=cnt_le (sumF l n n)
     have c2:=cnt_le n
     have h4:=sumF_bd h3 n n
     have h3':=Lib.hid h3
     clear h3
     go_enter Tryz.func122,Tryz.ntmps122
     go_wp2_with (first | (go_at_call 126;refine (sIsSet_any _ _ _ _ (hg _ hE)).mono ?_;rintro e w' ⟨rfl,hE'⟩;replace hE:=hE.trans hE';clear hE') | (go_at_call 84;refine (l4Sum_any _ _ _ _ _ (hg _ hE) (h3') (h2) (h2)).mono ?_;rintro e w' ⟨rfl,hE'⟩;replace hE:=hE.trans hE';clear hE') | (go_at_call 125;first | (with_reducible refine (l3Bits_any _ h4 _).mono ?_;rintro e w' ⟨rfl,rfl⟩) | (with_reducible refine (l3Bits_any _ h2 _).mono ?_;rintro e w' ⟨rfl,rfl⟩)))
     go_ret
     exact⟨ret_bool hm.out.symm,hE0.trans hE⟩
def interTo(l:List Int)(a b k:Nat):List Int:=castL ((List.range k).map (fun x=>cnt (a &&& shiftF l b x)))
theorem interTo_len(l:List Int)(a b k:Nat):(interTo l a b k).length=k:=by simp[interTo,castL]
end Go.Zz
namespace Go.Zz
open Go.RowKit Go.Proofs
set_option maxHeartbeats 400000
def bump(t:List Int)(z:Nat):List Int:=t.set z (nth t z+1)
theorem bump_len(t:List Int)(z:Nat):(bump t z).length=t.length:=by simp[bump]
def tabIn(l:List Int)(x:Nat)(t:List Int)(L:List Nat):List Int:=L.foldl (fun t y=>bump t (addF l x y)) t
def tabOut(l:List Int)(b:Nat)(t:List Int)(L:List Nat):List Int:=L.foldl (fun t x=>tabIn l x t (elems b)) t
theorem nth_bump(t:List Int)(z i:Nat)(hz:z<t.length):nth (bump t z) i=if i=z then nth t z+1 else nth t i:=by
 unfold bump nth
 simp only[List.getD_eq_getElem?_getD,List.getElem?_set]
 by_cases h:i=z
 · subst h;simp[hz]
 · have h':¬z=i:=fun e=>h e.symm
   simp[h,h']
end Go.Zz
namespace Go.Zz
open Go.RowKit Go.Proofs
set_option maxHeartbeats 400000
def andN(a b:Nat):Nat:=a ^^^ (a &&& b)
theorem andN_bit(a b i:Nat):(andN a b).testBit i=(a.testBit i && !b.testBit i):=by
 unfold andN;rw[Nat.testBit_xor,Nat.testBit_and];cases a.testBit i<;>cases b.testBit i<;>rfl
theorem andN_lt{a b n:Nat}(h:a<2 ^ n):andN a b<2 ^ n:=Nat.xor_lt_two_pow h (Nat.lt_of_le_of_lt Nat.and_le_left h)
theorem andN_sub:∀(n a b:Nat),a<2 ^ n→andN a b+(a &&& b)=a
 | 0,a,b,h=>by
  obtain rfl:a=0:=by simp at h;omega
  simp[andN]
 | n+1,a,b,h=>by
  have hp:2 ^ (n+1)=2 ^ n*2:=Nat.pow_succ 2 n
  have ih:=andN_sub n (a / 2) (b / 2) (by omega)
  have d1:andN a b / 2=andN (a / 2) (b / 2):=by
   apply Nat.eq_of_testBit_eq;intro i
   rw[←Nat.testBit_succ,andN_bit,andN_bit,Nat.testBit_succ,Nat.testBit_succ]
  have d2:(a &&& b) / 2=(a / 2) &&& (b / 2):=by
   apply Nat.eq_of_testBit_eq;intro i
   rw[←Nat.testBit_succ,Nat.testBit_and,Nat.testBit_and,Nat.testBit_succ,Nat.testBit_succ]
  have m1:(andN a b).testBit 0=(a.testBit 0 && !b.testBit 0):=andN_bit a b 0
  have m2:(a &&& b).testBit 0=(a.testBit 0&&b.testBit 0):=Nat.testBit_and a b 0
  rw[Nat.testBit_zero,Nat.testBit_zero,Nat.testBit_zero] at m1 m2
  have e1:andN a b % 2+(a &&& b) % 2=a % 2:=by
   rw[Bool.eq_iff_iff] at m1 m2
   simp only[decide_eq_true_eq,Bool.and_eq_true,Bool.not_eq_true',decide_eq_false_iff_not] at m1 m2
   omega
  omega
theorem iandn_nat{a b:Nat}(ha:a<2 ^ 63)(hb:b<2 ^ 63):iandn a b=((andN a b:Nat):Int):=by
 show IntKind.i64.wrap ((BitVec.ofInt IntKind.i64.bits (a:Int) &&& ~~~ BitVec.ofInt IntKind.i64.bits (b:Int)).toNat:Int)=_
 have e:(BitVec.ofInt IntKind.i64.bits (a:Int) &&& ~~~ BitVec.ofInt IntKind.i64.bits (b:Int))=(BitVec.ofInt IntKind.i64.bits (a:Int) ^^^ (BitVec.ofInt IntKind.i64.bits (a:Int) &&& BitVec.ofInt IntKind.i64.bits (b:Int))):=by
  ext i hi;simp only[BitVec.getElem_and,BitVec.getElem_xor,BitVec.getElem_not]
  cases (BitVec.ofInt IntKind.i64.bits (a:Int))[i]<;>cases (BitVec.ofInt IntKind.i64.bits (b:Int))[i]<;>rfl
 rw[e,BitVec.toNat_xor,BitVec.toNat_and,bv_nat ha,bv_nat hb]
 exact wrap_nat (andN_lt ha)
def fullN(l:List Int):Nat:=pw (ord l) - 1
def isOneB(l:List Int)(a:Int):Bool:=isSetB l a&&decide (a≠0)
theorem isOneB_no{l:List Int}{a:Int}(h:isSetB l a=false):isOneB l a=false:=by unfold isOneB;rw[h];rfl
theorem isOneB_zero(l:List Int):isOneB l 0=false:=by unfold isOneB;simp
theorem isOneB_yes{l:List Int}{n:Nat}(h:isSetB l n=true)(h0:0<n):isOneB l n=true:=by unfold isOneB;rw[h];simp;omega
theorem fullN_lt(l:List Int):fullN l<2 ^ ord l:=by unfold fullN;have:=pw_pos (ord l);rw[←pw_eq];omega
theorem fullN_bit(l:List Int)(i:Nat):(fullN l).testBit i=decide (i<ord l):=by unfold fullN;rw[pw_eq];exact Nat.testBit_two_pow_sub_one _ _
theorem pos_of_bit{a i:Nat}(h:a.testBit i=true):a≠0:=by intro e;rw[e,Nat.zero_testBit] at h;cases h
theorem bit_of_pos{a:Nat}(h:a≠0):∃i,a.testBit i=true:=by
 refine Classical.byContradiction fun hn=>h (Nat.eq_of_testBit_eq fun i=>?_)
 rw[Nat.zero_testBit]
 cases e:a.testBit i
 · rfl
 · exact absurd ⟨i,e⟩ hn
theorem cnt_ne{a:Nat}(h:cnt a≠0):a≠0:=fun e=>h (by rw[e];exact cnt_zero)
theorem bit_lt{a n i:Nat}(ha:a<2 ^ n)(h:a.testBit i=true):i<n:=by
 refine Classical.byContradiction fun hn=>?_
 rw[testBit_ge ha (by omega)] at h;cases h
end Go.Zz
namespace Go.Zz
open Go.RowKit Go.Proofs
set_option maxHeartbeats 400000
theorem fullF_n{l:List Int}(h:isGrp l=true):fullF l=(fullN l:Int):=by
 rw[fullF_t h];unfold fullN;have:=pw_pos (ord l);omega
theorem FullSet_grp(v:Value)(l:List Int)(w:World)(h:Ints w v l)(Hgr:Hid (isGrp l=true)) :
 Calls Tryz.prog 169 #[.agg #[v]] w fun e w'=>e=.returned (.int .i64 (fullN l))∧Ext w w':=by
 rw[←fullF_n Hgr.out];exact FullSet_any v l w h
theorem OrderOf_grp(v:Value)(l:List Int)(w:World)(h:Ints w v l)(Hgr:Hid (isGrp l=true)) :
 Calls Tryz.prog 157 #[.agg #[v]] w fun e w'=>e=.returned (.int .i64 (ord l:Int))∧Ext w w':=by
 rw[←ordF_t Hgr.out];exact OrderOf_any v l w h
end Go.Zz
namespace Go.Zz
open Go.RowKit Go.Proofs
set_option maxHeartbeats 400000
theorem Own.cellAt{TI:TypeId}{w0 w:World}{g n c:Nat}{l:List Int}(h:Own TI w0 w (.slice (some ⟨g,0,none⟩) n c) l)(hn:l.length=n){i:Nat}(hi:i<n) :
 w.cell? ⟨g,i,none⟩=some (.int .i64 (nth l i))∧w.frozen? ⟨g,i,none⟩=false:=by
 obtain⟨ao',c',hv,-,-,hs⟩:=h.shape
 obtain⟨g',hg1,hc1,hf1⟩:=hs i (by omega)
 simp only[Value.slice.injEq] at hv
 obtain⟨hv1,-,-⟩:=hv
 rw[←hv1] at hg1
 simp only[Option.some.injEq,Addr.mk.injEq,and_true] at hg1
 obtain rfl:=hg1
 exact⟨hc1,hf1⟩
theorem Own.row{TI:TypeId}{w0 w:World}{ao:Option Addr}{n c:Nat}{l:List Int}(h:Own TI w0 w (.slice ao n c) l)(hn:l.length=n)(hp:0<n) :
 ∃g,ao=some ⟨g,0,none⟩∧w0.heap.size≤g∧g<w.heap.size:=by
 obtain⟨ao',c',hv,-,hb,hs⟩:=h.shape
 obtain⟨g',hg1,hc1,hf1⟩:=hs 0 (by omega)
 simp only[Value.slice.injEq] at hv
 obtain⟨hv1,-,-⟩:=hv
 subst hv1
 obtain⟨g,e,h1,h2⟩:=hb _ hg1
 exact⟨g,by rw[hg1,e],h1,h2⟩
theorem Own.nshape{TI:TypeId}{w0 w:World}{v:Value}{L:List Nat}(h:Own TI w0 w v (castL L)):∃(ao:Option Addr) (c:Nat),v=.slice ao L.length c:=by
 obtain⟨ao,c,e,-,-,-⟩:=h.shape
 exact⟨ao,c,by rw[e,castL_len]⟩
theorem row_index(g n c:Nat):∀(i:Nat) W,i<n→(Instr.indexAt 22 (.slice (some ⟨g,0,none⟩) n c) (.int .i64 (i:Int))).run Tryz.prog W=.ok (.pointer (some ⟨g,i,none⟩)) W:=by
 intro i W hi
 rw[run_indexAt_slice (h:=elI),if_pos (by omega),szI]
 simp[Result.andThen,Addr.add_lit]
end Go.Zz
