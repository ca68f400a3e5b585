/- Elements and sets: add, shift, sum, areSets, FullSet. -/
import Derived.Test.YtnnbhcalddkmmaaGreatGr3
import Derived.Deep.RegionHeld3
import Derived.Deep.RegionWith
namespace Go.Zz
open Go.RowKit Go.Proofs
set_option maxHeartbeats 400000
theorem bw6{s u t A:Nat}(h:s+u*t=A)(hA:A<24):s<24:=by omega
theorem bf4(n:Nat)(h:n≤9223372036854775807):wrap64 (n:Int)=(n:Int):=IntWalk.wrap64_in _ (by omega)
theorem b88{x q:Nat}(hx:x≤16777216):Value.int .i64 (wrap64 ((x:Int) / (q:Int)))=.int .i64 ((x / q:Nat):Int):=by
 have h:=Nat.div_le_self x q;rw[show ((x:Int) / (q:Int))=((x / q:Nat):Int) from (Int.natCast_ediv x q).symm];generalize x / q=d at h ⊢;rw[bf4 d (by omega)]
theorem bx9(u q:Nat):Value.int .i64 ((u:Int)*(q:Int))=.int .i64 ((u*q:Nat):Int):=by rw[Int.natCast_mul]
theorem cy2{x y q s u:Nat}(hs:s<24)(h0:0≤((x:Int) % (q:Int)+(y:Int) % (q:Int)) % (q:Int)*(u:Int))(h1:((x:Int) % (q:Int)+(y:Int) % (q:Int)) % (q:Int)*(u:Int)≤331776) :
 Value.int .i64 (wrap64 ((s:Int)+wrap64 (((x:Int)+(y:Int)) % (q:Int)*(u:Int))))=.int .i64 ((s+((x % q+y % q) % q)*u:Nat):Int):=by
 have c2:((((x % q+y % q) % q)*u:Nat):Int)=((x:Int) % (q:Int)+(y:Int) % (q:Int)) % (q:Int)*(u:Int):=by
  rw[Int.natCast_mul,Int.natCast_emod,Int.natCast_add,Int.natCast_emod,Int.natCast_emod]
 rw[←c2] at h0 h1;rw[show ((x:Int)+(y:Int)) % (q:Int)*(u:Int)=((((x % q+y % q) % q)*u:Nat):Int) from by rw[c2,Int.add_emod]];generalize ((x % q+y % q) % q)*u=d at h0 h1 ⊢;rw[bf4 d (by omega),←Int.natCast_add,bf4 (s+d) (by omega)]
theorem bk8{s u d q t A:Nat}(h:s+u*(d+q*t)=A):(s+d*u)+(u*q)*t=A:=by
 rw[Nat.mul_add,←Nat.mul_assoc,Nat.mul_comm u d] at h;omega
theorem N2(v:Value)(l:List Int)(x y:Nat)(w:World)(h:c8 w v l)(Hgr:Hid (c9 l=true))(hx:x<16777216)(hy:y<16777216) :
 Calls Tryz.prog 224 #[.agg #[v],.int .i64 x,.int .i64 y] w fun e w'=>e=.returned (.int .i64 (j9 l x y))∧Ext w w':=by
 obtain⟨ao,c,adr,rfl,hlen,hadr,hcell⟩:=h.op;have hix:=j6 (c:=c) elI szI hadr;clear hadr h;obtain⟨wb,hwb⟩:∃wb,wb=w.alloc (.cells #[.slice ao l.length c] 28):=⟨_,rfl⟩;have hE0:=(Ext.refl w).alloc (.cells #[.slice ao l.length c] 28);rw[←hwb] at hE0;have hE:=Ext.refl wb;have Hwb:=Lib.hid hwb;have hA:=T7 Hgr.out x y;have h3:=C0 Hgr.out;clear hwb;go_enter Tryz.func224,Tryz.ntmps224;go_wp2_with fail;rw[←Hwb.out];go_loopw [1,2,7,8,14] (fun xv yv sv uv i wr=>∃k x' y' s u:Nat,k≤l.length∧x'≤x∧y'≤y∧s+u*j9 (l.drop k) x' y'=j9 l x y∧(u:Int)=C4 (l.take k)∧xv=.int .i64 x'∧yv=.int .i64 y'∧sv=.int .i64 s∧uv=.int .i64 u∧i=.int .i64 k∧Ext wb wr) (fun _ _ _ _ i _=>l.length - (intOf i).toNat);case atStart=>exact⟨0,x,y,0,1,by omega,by omega,by omega,by simp,by simp[C4],rfl,rfl,rfl,rfl,rfl,hE⟩
 case round =>
  clear hE;obtain⟨k,x',y',s,u,hk,hx',hy',hs,hu,rfl,rfl,rfl,rfl,rfl,hE⟩:=hrel;have hsb:=bw6 hs hA;obtain⟨hu1,hu2⟩:=U2 k l hk (by omega) (fun j hj=>E2 Hgr.out (by omega))
  rw[←hu] at hu1 hu2;have Hs:=Lib.hid hs;have Hu:=Lib.hid hu;clear hs hu hA;by_cases hlt:k<l.length
  · have hck:=hcell k _ hlt (hE0.trans hE);obtain⟨hq1,hq2⟩:=E2 Hgr.out hlt;obtain⟨q,hq⟩:=Int.eq_ofNat_of_zero_le (show 0≤nth l k by omega);have Hst:=Lib.hid (cf3 hlt hq x' y');have hu':nth l k*C4 (l.take k)=C4 (l.take (k+1)):=(by rw[P6 l k hlt,Int.mul_comm]);have Hu2:=Lib.hid hu';rw[hq] at hq1 hq2;have Hq:=Lib.hid hq;have hd:(x' % q+y' % q) % q<24:=Nat.lt_of_lt_of_le (Nat.mod_lt _ (by omega)) (by omega);have hm1:((x' % q+y' % q) % q)*u≤24*13824:=Nat.mul_le_mul (by omega) (by omega);have hm2:u*q≤13824*24:=Nat.mul_le_mul (by omega) (by omega);have c1:((x' % q+y' % q:Nat):Int)=(x':Int) % (q:Int)+(y':Int) % (q:Int):=(by simp);have c2:((((x' % q+y' % q) % q)*u:Nat):Int)=((x':Int) % (q:Int)+(y':Int) % (q:Int)) % (q:Int)*(u:Int):=(by rw[Int.natCast_mul,Int.natCast_emod,c1]);have c3:((u*q:Nat):Int)=(u:Int)*(q:Int):=Int.natCast_mul _ _;have b1:(x':Int) % (q:Int)<24:=(by have:=Int.emod_lt_of_pos (x':Int) (show (0:Int)<q by omega);omega);have b2:(y':Int) % (q:Int)<24:=(by have:=Int.emod_lt_of_pos (y':Int) (show (0:Int)<q by omega);omega);have b3:0≤(x':Int) % (q:Int):=Int.emod_nonneg _ (by omega);have b4:0≤(y':Int) % (q:Int):=Int.emod_nonneg _ (by omega);have b5:((x':Int) % (q:Int)+(y':Int) % (q:Int)) % (q:Int)*(u:Int)≤331776:=(by rw[←c2];omega);have b6:0≤((x':Int) % (q:Int)+(y':Int) % (q:Int)) % (q:Int)*(u:Int):=(by rw[←c2];omega);have b7:(u:Int)*(q:Int)≤331776:=(by rw[←c3];omega);have b8:0≤(u:Int)*(q:Int):=(by rw[←c3];omega);have C2:=Lib.hid c2;have C3:=Lib.hid c3;clear c1 c2 c3 hd hm1 hm2 hu';go_wp2_with fail;(refine d0 (wb) (by kernel_rfl) (by kernel_rfl) hE ?_);(repeat (go_big_quiet_step (first | fail)));(refine wpQuiet_nil ?_);(intro W hE');(replace hE:=l7 hE');(clear hE');go_wp2_with fail;(refine d0 (wb) (by kernel_rfl) (by kernel_rfl) hE ?_);(repeat (go_big_quiet_step (first | fail)));(refine wpQuiet_nil ?_);(intro W hE');(replace hE:=l7 hE');(clear hE');go_wp2_with fail;go_roundw;case rel =>
     refine⟨k+1,x' / q,y' / q,s+((x' % q+y' % q) % q)*u,u*q,by omega,Nat.le_trans (Nat.div_le_self _ _) hx',Nat.le_trans (Nat.div_le_self _ _) hy',?_,?_,?_,?_,?_,?_,by go_num,hE⟩
     · apply bk8;rw[←Hst.out];exact Hs.out
     · rw[←Hu2.out,←Hu.out,Hq.out];push_cast;rw[Int.mul_comm]
     · exact b88 (Nat.le_trans hx' (Nat.le_of_lt hx))
     · exact b88 (Nat.le_trans hy' (Nat.le_of_lt hy))
     · exact cy2 hsb b6 b5
     · exact bx9 u q
    case measure=>(simp[intOf];omega)
  · have hkl:k=l.length:=(by omega);subst hkl;go_wp2_with fail;go_ret;exact⟨m8 (by have:=Hs.out;rw[List.drop_length] at this;simp[j9] at this;omega),hE0.trans hE⟩
end Go.Zz
namespace Go.Zz
open Go.RowKit Go.Proofs
set_option maxHeartbeats 400000
theorem G5(v:Value)(l:List Int)(x y:Nat)(w:World)(h:c8 w v l)(Hgr:Hid (c9 l=true))(hx:x<16777216)(hy:y<16777216) :
 Calls Tryz.prog 190 #[.agg #[v],.int .i64 x,.int .i64 y] w fun e w'=>e=.returned (.int .i64 (j9 l x y))∧Ext w w':=by
 obtain⟨ao,c,adr,rfl,hlen,hadr,hcell⟩:=h.op;have hix:=j6 (c:=c) elI szI hadr;clear hadr h;obtain⟨wb,hwb⟩:∃wb,wb=w.alloc (.cells #[.slice ao l.length c] 28):=⟨_,rfl⟩;have hE0:=(Ext.refl w).alloc (.cells #[.slice ao l.length c] 28);have hb:=d7 w (.slice ao l.length c) 28;rw[←hwb] at hE0 hb;have hE:=Ext.refl wb;have Hwb:=Lib.hid hwb;have hA:=T7 Hgr.out x y;have h3:=C0 Hgr.out;clear hwb;go_enter Tryz.func190,Tryz.ntmps190;go_wp2_with fail;rw[←Hwb.out];go_loopw [1,2,7,8,9] (fun xv yv sv uv i wr=>∃k x' y' s u:Nat,k≤l.length∧x'≤x∧y'≤y∧s+u*j9 (l.drop k) x' y'=j9 l x y∧(u:Int)=C4 (l.take k)∧xv=.int .i64 x'∧yv=.int .i64 y'∧sv=.int .i64 s∧uv=.int .i64 u∧i=.int .i64 k∧Ext wb wr) (fun _ _ _ _ i _=>l.length - (intOf i).toNat);case atStart=>exact⟨0,x,y,0,1,by omega,by omega,by omega,by simp,by simp[C4],rfl,rfl,rfl,rfl,rfl,hE⟩
 case round =>
  clear hE;obtain⟨k,x',y',s,u,hk,hx',hy',hs,hu,rfl,rfl,rfl,rfl,rfl,hE⟩:=hrel;have hsb:=bw6 hs hA;have hbx:=hb wr hE;obtain⟨hu1,hu2⟩:=U2 k l hk (by omega) (fun j hj=>E2 Hgr.out (by omega))
  rw[←hu] at hu1 hu2;have Hs:=Lib.hid hs;have Hu:=Lib.hid hu;clear hs hu hA;by_cases hlt:k<l.length
  · have hck:=hcell k _ hlt (hE0.trans hE);obtain⟨hq1,hq2⟩:=E2 Hgr.out hlt;obtain⟨q,hq⟩:=Int.eq_ofNat_of_zero_le (show 0≤nth l k by omega);have Hst:=Lib.hid (cf3 hlt hq x' y');have hu':nth l k*C4 (l.take k)=C4 (l.take (k+1)):=(by rw[P6 l k hlt,Int.mul_comm]);have Hu2:=Lib.hid hu';rw[hq] at hq1 hq2;have Hq:=Lib.hid hq;have hd:(x' % q+y' % q) % q<24:=Nat.lt_of_lt_of_le (Nat.mod_lt _ (by omega)) (by omega);have hm1:((x' % q+y' % q) % q)*u≤24*13824:=Nat.mul_le_mul (by omega) (by omega);have hm2:u*q≤13824*24:=Nat.mul_le_mul (by omega) (by omega);have c1:((x' % q+y' % q:Nat):Int)=(x':Int) % (q:Int)+(y':Int) % (q:Int):=(by simp);have c2:((((x' % q+y' % q) % q)*u:Nat):Int)=((x':Int) % (q:Int)+(y':Int) % (q:Int)) % (q:Int)*(u:Int):=(by rw[Int.natCast_mul,Int.natCast_emod,c1]);have c3:((u*q:Nat):Int)=(u:Int)*(q:Int):=Int.natCast_mul _ _;have b1:(x':Int) % (q:Int)<24:=(by have:=Int.emod_lt_of_pos (x':Int) (show (0:Int)<q by omega);omega);have b2:(y':Int) % (q:Int)<24:=(by have:=Int.emod_lt_of_pos (y':Int) (show (0:Int)<q by omega);omega);have b3:0≤(x':Int) % (q:Int):=Int.emod_nonneg _ (by omega);have b4:0≤(y':Int) % (q:Int):=Int.emod_nonneg _ (by omega);have b5:((x':Int) % (q:Int)+(y':Int) % (q:Int)) % (q:Int)*(u:Int)≤331776:=(by rw[←c2];omega);have b6:0≤((x':Int) % (q:Int)+(y':Int) % (q:Int)) % (q:Int)*(u:Int):=(by rw[←c2];omega);have b7:(u:Int)*(q:Int)≤331776:=(by rw[←c3];omega);have b8:0≤(u:Int)*(q:Int):=(by rw[←c3];omega);have C2:=Lib.hid c2;have C3:=Lib.hid c3;clear c1 c2 c3 hd hm1 hm2 hu';go_wp2_with fail;(refine d0 (wb) (by kernel_rfl) (by kernel_rfl) hE ?_);(repeat (go_big_quiet_step (first | fail)));(refine wpQuiet_nil ?_);(intro W hE');(replace hE:=l7 hE');(clear hE');go_wp2_with fail;go_roundw;case rel =>
     refine⟨k+1,x' / q,y' / q,s+((x' % q+y' % q) % q)*u,u*q,by omega,Nat.le_trans (Nat.div_le_self _ _) hx',Nat.le_trans (Nat.div_le_self _ _) hy',?_,?_,?_,?_,?_,?_,by go_num,hE⟩
     · apply bk8;rw[←Hst.out];exact Hs.out
     · rw[←Hu2.out,←Hu.out,Hq.out];push_cast;rw[Int.mul_comm]
     · exact b88 (Nat.le_trans hx' (Nat.le_of_lt hx))
     · exact b88 (Nat.le_trans hy' (Nat.le_of_lt hy))
     · exact cy2 hsb b6 b5
     · exact bx9 u q
    case measure=>(simp[intOf];omega)
  · have hkl:k=l.length:=(by omega);subst hkl;go_wp2_with fail;go_ret;exact⟨m8 (by have:=Hs.out;rw[List.drop_length] at this;simp[j9] at this;omega),hE0.trans hE⟩
end Go.Zz
namespace Go.Zz
open Go.RowKit Go.Proofs
set_option maxHeartbeats 400000
theorem c8.nats{w:World}{v:Value}{L:List Nat}(h:c8 w v (d6 L)) :
 ∃(ao:Option Addr) (c:Nat) (adr:Nat→Addr),v=.slice ao L.length c ∧
  (∀i,i<L.length→ao=some (adr 0)∧adr i=(adr 0).add i) ∧
  (∀i W,i<L.length→Ext w W→W.cell? (adr i)=some (.int .i64 (d5 L i:Int))):=by
 obtain⟨ao,c,adr,rfl,_,h2,h3⟩:=h.op
 rw[j8] at h2 h3
 exact⟨ao,c,adr,by rw[j8],h2,fun i W hi hW=>by rw[h3 i W hi hW,b22]⟩
def U1(l:List Int)(L:List Nat)(x:Nat):Nat:=N3 (L.map (fun y=>j9 l x y))
theorem c09(l:List Int)(L:List Nat)(y x:Nat):U1 l (L++[y]) x=U1 l L x ||| 2 ^ j9 l x y:=by
 unfold U1;rw[List.map_append];exact bd2 _ _
theorem db3(l:List Int)(a x:Nat):U1 l (j1 a) x=j2 l a x:=rfl
theorem cj0{l:List Int}(h:c9 l=true)(L:List Nat)(x:Nat):U1 l L x<2 ^ 24:=by
 refine Y3 fun y hy=>?_;obtain⟨z,_,rfl⟩:=List.mem_map.1 hy;exact T7 h _ _
theorem d29(l:List Int)(a k x:Nat)(hb:a.testBit k=true):U1 l (B8 a (k+1)) x=U1 l (B8 a k) x ||| 2 ^ j9 l x k:=by
 rw[E7,hb,if_pos rfl,c09]
theorem d30(l:List Int)(a k x:Nat)(hb:a.testBit k=false):U1 l (B8 a (k+1)) x=U1 l (B8 a k) x:=by
 rw[E7,hb];simp
theorem J9(v:Value)(l:List Int)(a x:Nat)(w:World)(h:c8 w v l)(Hgr:Hid (c9 l=true))(ha:a<2 ^ 24)(hx:x<24) :
 Calls Tryz.prog 220 #[.agg #[v],.int .i64 a,.int .i64 x] w fun e w'=>e=.returned (.int .i64 (j2 l a x))∧Ext w w':=by
 obtain⟨wb,Hwb,hE0,hb,hg,hE,-⟩:=j60 28 h;clear h;go_enter Tryz.func220,Tryz.ntmps220;go_wp2_with fail;rw[←Hwb.out];go_loopw [7,8] (fun ov yv wr=>∃k:Nat,k≤24∧yv=.int .i64 k∧ov=.int .i64 ((U1 l (B8 a k) x:Nat):Int)∧Ext wb wr) (fun _ y _=>24 - (intOf y).toNat);case atStart=>exact⟨0,by omega,rfl,by simp[U1,B8,N3],hE⟩
 case round =>
  clear hE;obtain⟨k,hk,rfl,rfl,hE⟩:=hrel;have hbx:=hb wr hE;have hsh:=P3 (a:=a) (n:=k) (by omega);by_cases h0:shr a k=0
  · have he:=Lib.hid (P8 hk (bn6.1 h0));have h0':((shr a k:Nat):Int)=0:=(by rw[h0];rfl);clear h0;go_wp2_with fail;go_ret;exact⟨m8 (by rw[he.out];rfl),hE0.trans hE⟩
  · have hlt:=ce5 h0 ha;have hne:=ci3 h0;have hbt:=b15 (a:=a) (n:=k) (by omega) (by omega);clear h0;cases hb:a.testBit k
    · rw[hb] at hbt;have Hb:=Lib.hid (d30 l a k x hb);clear hb;go_wp2_with fail;go_roundw;(case rel=>exact⟨k+1,by omega,by go_num,by rw[Hb.out],hE⟩);case measure=>(simp[intOf];omega)
    · rw[hb] at hbt;have Hb:=Lib.hid (d29 l a k x hb);have hz:=T7 Hgr.out x k;have hs1:=p0 (n:=j9 l x k) (by omega);have hs2:=F8 (cj0 Hgr.out (B8 a k) x) hz;clear hb;go_wp2_with (first | (go_at_call 224;refine cx (N2 _ _ _ _ _ (hg _ hE) (Hgr) ((by omega)) ((by omega))) hE ?_;clear hE;intro w' hE));go_roundw;(case rel=>exact⟨k+1,by omega,by go_num,by rw[Hb.out],hE⟩);case measure=>(simp[intOf];omega)
theorem I8(v:Value)(l:List Int)(a x:Nat)(w:World)(h:c8 w v l)(Hgr:Hid (c9 l=true))(ha:a<2 ^ 24)(hx:x<24) :
 Calls Tryz.prog 166 #[.agg #[v],.int .i64 a,.int .i64 x] w fun e w'=>e=.returned (.int .i64 (j2 l a x))∧Ext w w':=by
 obtain⟨wb,hwb⟩:∃wb,wb=w.alloc (.cells #[v] 28):=⟨_,rfl⟩;have hE0:=(Ext.refl w).alloc (.cells #[v] 28);have hb:=d7 w v 28;rw[←hwb] at hE0 hb;have hg:∀W,Ext wb W→c8 W v l:=fun W hW=>h.ext (hE0.trans hW);have Hwb:=Lib.hid hwb;clear hwb h;go_enter Tryz.func166,Tryz.ntmps166;go_wp2_with fail;rw[←Hwb.out];go_wp2_with (first | (go_at_call 165;refine (L8 _ (ha) _).mono ?_;rintro e w1 ⟨v1,rfl,hL,hE1⟩;obtain⟨aoL,cL,adrL,rfl,hadrL,hcellL⟩:=hL.ints.nats;have hixL:=j6 (c:=cL) elI szI hadrL;clear hadrL));have hb1:∀W,Ext w1 W→W.cell? ⟨w.heap.size,0,none⟩=some v:=fun W hW=>hb W (hE1.trans hW);have hg1:∀W,Ext w1 W→c8 W v l:=fun W hW=>hg W (hE1.trans hW);have hE:=Ext.refl w1;clear hb hg hL;have hall:∀y∈j1 a,y<24:=fun y hy=>G7 hy;have hlen:=C9 a;have Hd:=Lib.hid (db3 l a x);generalize j1 a=L at hcellL hixL hall hlen Hd ⊢;go_loopw [7,9] (fun ov i wr=>∃k:Nat,k≤L.length∧i=.int .i64 k∧ov=.int .i64 ((U1 l (L.take k) x:Nat):Int)∧Ext w1 wr) (fun _ i _=>L.length - (intOf i).toNat);case atStart=>exact⟨0,by omega,rfl,by simp[U1,N3],hE⟩
 case round =>
  clear hE;obtain⟨k,hk,rfl,rfl,hE⟩:=hrel;by_cases hlt:k<L.length
  · have hck:=fun U=>hcellL k _ hlt (b9 w1 U);have hbx:=fun U=>hb1 _ (b9 w1 U);have hby:=hall _ (o6 hlt);have Ht:=Lib.hid (c09 l (L.take k) (d5 L k) x);have Ht2:=Lib.hid (S0 L k hlt);have hz:=T7 Hgr.out x (d5 L k);have hcm:=Lib.hid (C8 l (d5 L k) x);have hs1:=p0 (n:=j9 l (d5 L k) x) (by rw[hcm.out];omega);have hs2:=F8 (cj0 Hgr.out (L.take k) x) (show j9 l (d5 L k) x<24 by rw[hcm.out];omega);go_wp2_with fail;(refine d0 (w1) (by kernel_rfl) (by kernel_rfl) hE ?_);(repeat (go_big_quiet_step (first | (go_at_call 190;exact Calls.lat (G5 _ _ _ _ _ (hg1 _ (b9 w1 _)) (Hgr) ((by omega)) ((by omega)))))));(refine wpQuiet_nil ?_);(intro W hE');(replace hE:=l7 hE');(clear hE');go_wp2_with fail;go_roundw;(case rel=>exact⟨k+1,by omega,by go_num,by rw[Ht2.out,Ht.out,hcm.out],hE⟩);case measure=>(simp[intOf];omega)
  · have hkl:k=L.length:=(by omega);subst hkl;go_wp2_with fail;go_ret;exact⟨m8 (by rw[List.take_length,Hd.out]),hE0.trans (hE1.trans hE)⟩
end Go.Zz
namespace Go.Zz
open Go.RowKit Go.Proofs
set_option maxHeartbeats 400000
theorem H5(v:Value)(l:List Int)(a b:Nat)(w:World)(h:c8 w v l)(Hgr:Hid (c9 l=true))(ha:a<2 ^ 24)(hb':b<2 ^ 24) :
 Calls Tryz.prog 119 #[.agg #[v],.int .i64 a,.int .i64 b] w fun e w'=>e=.returned (.int .i64 (j3 l a b))∧Ext w w':=by
 obtain⟨wb,hwb⟩:∃wb,wb=w.alloc (.cells #[v] 28):=⟨_,rfl⟩;have hE0:=(Ext.refl w).alloc (.cells #[v] 28);have hb:=d7 w v 28;rw[←hwb] at hE0 hb;have hg:∀W,Ext wb W→c8 W v l:=fun W hW=>h.ext (hE0.trans hW);have Hwb:=Lib.hid hwb;clear hwb h;go_enter Tryz.func119,Tryz.ntmps119;go_wp2_with fail;rw[←Hwb.out];go_wp2_with (first | (go_at_call 214;refine (I9 _ (ha) _).mono ?_;rintro e w1 ⟨v1,rfl,hL,hE1⟩;obtain⟨aoL,cL,adrL,rfl,hadrL,hcellL⟩:=hL.ints.nats;have hixL:=j6 (c:=cL) elI szI hadrL;clear hadrL));have hb1:∀W,Ext w1 W→W.cell? ⟨w.heap.size,0,none⟩=some v:=fun W hW=>hb W (hE1.trans hW);have hg1:∀W,Ext w1 W→c8 W v l:=fun W hW=>hg W (hE1.trans hW);have hE:=Ext.refl w1;clear hb hg hL;have hall:∀y∈j1 a,y<24:=fun y hy=>G7 hy;have hlen:=C9 a;have Hd:=Lib.hid (cj3 l a b);generalize j1 a=L at hcellL hixL hall hlen Hd ⊢;go_loopw [7,13] (fun ov i wr=>∃k:Nat,k≤L.length∧i=.int .i64 k∧ov=.int .i64 ((b06 l (L.take k) b:Nat):Int)∧Ext w1 wr) (fun _ i _=>L.length - (intOf i).toNat);case atStart=>exact⟨0,by omega,rfl,by simp[b06,N3],hE⟩
 case round =>
  clear hE;obtain⟨k,hk,rfl,rfl,hE⟩:=hrel;by_cases hlt:k<L.length
  · have hck:=hcellL k _ hlt hE;have hbx:=hb1 _ hE;have hby:=hall _ (o6 hlt);have Ht:=Lib.hid (ca0 l (L.take k) (d5 L k) b);have Ht2:=Lib.hid (S0 L k hlt);have hs:=cy8 Hgr.out (L.take k) b;have hf:=M5 Hgr.out b (d5 L k);have hs2:=Q0 (show b06 l (L.take k) b<2 ^ 63 by omega) (show j2 l b (d5 L k)<2 ^ 63 by omega);go_wp2_with (first | (go_at_call 220;refine cx (J9 _ _ _ _ _ (hg1 _ hE) (Hgr) (hb') (hby)) hE ?_;clear hE;intro w' hE));go_roundw;(case rel=>exact⟨k+1,by omega,by go_num,by rw[Ht2.out,Ht.out],hE⟩);case measure=>(simp[intOf];omega)
  · have hkl:k=L.length:=(by omega);subst hkl;go_wp2_with fail;go_ret;exact⟨m8 (by rw[List.take_length,Hd.out]),hE0.trans (hE1.trans hE)⟩
theorem E4(v:Value)(l:List Int)(a b:Nat)(w:World)(h:c8 w v l)(Hgr:Hid (c9 l=true))(ha:a<2 ^ 24)(hb':b<2 ^ 24) :
 Calls Tryz.prog 49 #[.agg #[v],.int .i64 a,.int .i64 b] w fun e w'=>e=.returned (.int .i64 (j3 l a b))∧Ext w w':=by
 obtain⟨wb,hwb⟩:∃wb,wb=w.alloc (.cells #[v] 28):=⟨_,rfl⟩;have hE0:=(Ext.refl w).alloc (.cells #[v] 28);have hb:=d7 w v 28;rw[←hwb] at hE0 hb;have hg:∀W,Ext wb W→c8 W v l:=fun W hW=>h.ext (hE0.trans hW);have Hwb:=Lib.hid hwb;clear hwb h;go_enter Tryz.func49,Tryz.ntmps49;go_wp2_with fail;rw[←Hwb.out];go_wp2_with (first | (go_at_call 165;refine (L8 _ (hb') _).mono ?_;rintro e w1 ⟨v1,rfl,hL,hE1⟩;obtain⟨aoL,cL,adrL,rfl,hadrL,hcellL⟩:=hL.ints.nats;have hixL:=j6 (c:=cL) elI szI hadrL;clear hadrL));have hb1:∀W,Ext w1 W→W.cell? ⟨w.heap.size,0,none⟩=some v:=fun W hW=>hb W (hE1.trans hW);have hg1:∀W,Ext w1 W→c8 W v l:=fun W hW=>hg W (hE1.trans hW);have hE:=Ext.refl w1;clear hb hg hL;have hall:∀y∈j1 b,y<24:=fun y hy=>G7 hy;have hlen:=C9 b;have Hd:Hid (b06 l (j1 b) a=j3 l a b):=Lib.hid (by rw[cj3,bf1]);generalize j1 b=L at hcellL hixL hall hlen Hd ⊢;go_loopw [7,9] (fun ov i wr=>∃k:Nat,k≤L.length∧i=.int .i64 k∧ov=.int .i64 ((b06 l (L.take k) a:Nat):Int)∧Ext w1 wr) (fun _ i _=>L.length - (intOf i).toNat);case atStart=>exact⟨0,by omega,rfl,by simp[b06,N3],hE⟩
 case round =>
  clear hE;obtain⟨k,hk,rfl,rfl,hE⟩:=hrel;by_cases hlt:k<L.length
  · have hck:=fun U=>hcellL k _ hlt (b9 w1 U);have hbx:=fun U=>hb1 _ (b9 w1 U);have hby:=hall _ (o6 hlt);have Ht:=Lib.hid (ca0 l (L.take k) (d5 L k) a);have Ht2:=Lib.hid (S0 L k hlt);have hs:=cy8 Hgr.out (L.take k) a;have hf:=M5 Hgr.out a (d5 L k);have hs2:=Q0 (show b06 l (L.take k) a<2 ^ 63 by omega) (show j2 l a (d5 L k)<2 ^ 63 by omega);go_wp2_with fail;(refine d0 (w1) (by kernel_rfl) (by kernel_rfl) hE ?_);(repeat (go_big_quiet_step (first | (go_at_call 166;exact Calls.lat (I8 _ _ _ _ _ (hg1 _ (b9 w1 _)) (Hgr) (ha) (hby))))));(refine wpQuiet_nil ?_);(intro W hE');(replace hE:=l7 hE');(clear hE');go_wp2_with fail;go_roundw;(case rel=>exact⟨k+1,by omega,by go_num,by rw[Ht2.out,Ht.out],hE⟩);case measure=>(simp[intOf];omega)
  · have hkl:k=L.length:=(by omega);subst hkl;go_wp2_with fail;go_ret;exact⟨m8 (by rw[List.take_length,Hd.out]),hE0.trans (hE1.trans hE)⟩
theorem dt3{l xs:List Int}{k:Nat}(hk:k<xs.length)(h:d8 l (nth xs k)=false):J1 l xs=false:=by
 unfold J1;have:xs.all (d8 l)=false:=by
  cases e:xs.all (d8 l)
  · rfl
  · rw[List.all_eq_true.1 e _ (b92 hk)] at h;cases h
 rw[this];rfl
theorem dk9{l xs:List Int}(h:∀j,j<xs.length→d8 l (nth xs j)=true):J1 l xs=c9 l:=by
 unfold J1;rw[show xs.all (d8 l)=true from List.all_eq_true.2 fun x hx=>by obtain⟨k,hk,rfl⟩:=b90 hx;exact h k hk];rfl
theorem bz8(v u:Value)(l xs:List Int)(w:World)(h:c8 w v l)(k:c8 w u xs) :
 Calls Tryz.prog 222 #[.agg #[v],u] w fun e w'=>e=.returned (.bool (J1 l xs))∧Ext w w':=by
 obtain⟨wb,Hwb,hE0,hb,hg,hE,-⟩:=j60 28 h;obtain⟨ao,c,adr,rfl,hlen,hadr,hcell⟩:=k.op;have hix:=j6 (c:=c) elI szI hadr;clear hadr k;clear h;go_enter Tryz.func222,Tryz.ntmps222;go_wp2_with fail;rw[←Hwb.out];go_loopw [9] (fun i wr=>∃k:Nat,k≤xs.length∧i=.int .i64 k∧(∀j,j<k→d8 l (nth xs j)=true)∧Ext wb wr) (fun i _=>xs.length - (intOf i).toNat);case atStart=>exact⟨0,by omega,rfl,by omega,hE⟩
 case round =>
  clear hE;obtain⟨k,hk,rfl,hall,hE⟩:=hrel;have Hall:=Lib.hid hall;clear hall;have hbx:=hb _ hE;by_cases hlt:k<xs.length
  · have hck:=hcell k _ hlt (hE0.trans hE);cases hs:d8 l (nth xs k)
    · have Hs:=Lib.hid (dt3 hlt hs);go_wp2_with (first | (go_at_call 105;refine cx (H6 _ _ _ _ (hg _ hE)) hE ?_;clear hE;intro w' hE));go_ret;exact⟨l9 Hs.out.symm,hE0.trans hE⟩
    · have Hs:=Lib.hid hs;go_wp2_with (first | (go_at_call 105;refine cx (H6 _ _ _ _ (hg _ hE)) hE ?_;clear hE;intro w' hE));go_roundw;(case rel=>exact⟨k+1,by omega,by go_num,fun j hj=>by by_cases e:j=k;(subst e;exact Hs.out);exact Hall.out j (by omega),hE⟩);case measure=>(simp[intOf];omega)
  · have hkl:k=xs.length:=(by omega);subst hkl;go_wp2_with (first | (go_at_call 94;refine cx (l0 _ _ _ (hg _ hE)) hE ?_;clear hE;intro w' hE));go_ret;exact⟨l9 (dk9 Hall.out).symm,hE0.trans hE⟩
def bx3(l:List Int):Int:=if c9 l then ((pw (ord l) - 1:Nat):Int) else 0
theorem d56{l:List Int}(h:c9 l=true):bx3 l=((pw (ord l):Nat):Int) - 1:=by
 unfold bx3;rw[if_pos h];have:=R5 (ord l);omega
theorem du8{l:List Int}(h:c9 l=false):bx3 l=0:=by unfold bx3;rw[h];rfl
theorem bz5(v:Value)(l:List Int)(w:World)(h:c8 w v l) :
 Calls Tryz.prog 215 #[.agg #[v]] w fun e w'=>e=.returned (.int .i64 (bx3 l))∧Ext w w':=by
 have hE0:=(Ext.refl w).alloc (.cells #[v] 28);have hE:=Ext.refl (w.alloc (.cells #[v] 28));have hb:=d7 w v 28;have hg:∀W,Ext (w.alloc (.cells #[v] 28)) W→c8 W v l:=fun W hW=>h.ext (hE0.trans hW);clear h;cases hs:c9 l
 · have Hs:=Lib.hid (du8 hs);go_enter Tryz.func215,Tryz.ntmps215;go_wp2_with (first | (go_at_call 94;refine cx (l0 _ _ _ (hg _ hE)) hE ?_;clear hE;intro w' hE));go_ret;exact⟨m8 Hs.out.symm,hE0.trans hE⟩
 · have Hs:=Lib.hid (d56 hs);have ho:=Z9 hs;have hb1:=l8 hs;have hp1:=R5 (ord l);have hp2:=b04 hb1.2;have hs1:=p0 (n:=ord l) (by omega);go_enter Tryz.func215,Tryz.ntmps215;go_wp2_with (first | (go_at_call 94;refine cx (l0 _ _ _ (hg _ hE)) hE ?_;clear hE;intro w' hE) | (go_at_call 99;refine cx (N7 _ _ _ (hg _ hE)) hE ?_;clear hE;intro w' hE));go_ret;exact⟨m8 Hs.out.symm,hE0.trans hE⟩
end Go.Zz
namespace Go.Zz
open Go.RowKit Go.Proofs
set_option maxHeartbeats 400000
set_option maxRecDepth 4000
def fsF(l:List Int)(a:Int):ByteArray:=if d8 l a then I0 (d6 (j1 a.toNat)) else ⟨#[]⟩
theorem b60{l:List Int}{a:Int}(h:d8 l a=false):fsF l a=⟨#[]⟩:=by unfold fsF;rw[h];rfl
theorem Y5{l:List Int}{n:Nat}(h:d8 l n=true):fsF l n=I0 (d6 (j1 n)):=by unfold fsF;rw[h];rfl
theorem W6(n i:Nat)(h:i<(d6 (j1 n)).length) : -1≤nth (d6 (j1 n)) i∧nth (d6 (j1 n)) i<1000000000000:=by
 rw[j8] at h;have e:nth (d6 (j1 n)) i=((j1 n)[i]:Int):=by simp[nth,d6,List.getD,h]
 have:=G7 (List.getElem_mem h);rw[e];omega
theorem E3(v:Value)(l:List Int)(a:Int)(w:World)(h:c8 w v l) :
 Calls Tryz.prog 106 #[.agg #[v],.int .i64 a] w fun e w'=>e=.returned (.string (fsF l a))∧Ext w w':=by
 have hE0:=(Ext.refl w).alloc (.cells #[v] 28);have hE:=Ext.refl (w.alloc (.cells #[v] 28));have hb:=d7 w v 28;have hg:∀W,Ext (w.alloc (.cells #[v] 28)) W→c8 W v l:=fun W hW=>h.ext (hE0.trans hW);clear h;cases hs:d8 l a
 · have He:=Lib.hid (b60 hs);go_enter Tryz.func106,Tryz.ntmps106;go_wp2_with (first | (go_at_call 105;refine cx (H6 _ _ _ _ (hg _ hE)) hE ?_;clear hE;intro w' hE));go_ret;exact⟨d9 He.out.symm,hE0.trans hE⟩
 · obtain⟨n,rfl,-,hn,-⟩:=m3 hs;have He:=Lib.hid (Y5 hs);have hc:=fun v W (hI:c8 W v (d6 (j1 n)))=>c05 v (d6 (j1 n)) W hI (W6 n) (by rw[j8];have:=C9 n;omega);go_enter Tryz.func106,Tryz.ntmps106;go_wp2_with (first | (go_at_call 105;refine cx (H6 _ _ _ _ (hg _ hE)) hE ?_;clear hE;intro w' hE) | (go_at_call 214;refine (I9 _ (hn) _).mono ?_;rintro e w1 ⟨v1,rfl,hL,hE1⟩;obtain⟨aoL,cL,adrL,rfl,hadrL,hcellL⟩:=hL.ints.nats;have hixL:=j6 (c:=cL) elI szI hadrL;clear hadrL) | (go_at_call 110;refine (hc _ _ hL.ints).mono ?_;rintro e w2 ⟨rfl,hE2⟩));go_ret;exact⟨d9 He.out.symm,((hE0.trans hE).trans hE1).trans hE2⟩
end Go.Zz
namespace Go.Zz
open Go.RowKit Go.Proofs
set_option maxHeartbeats 400000
theorem S9(w:World)(a b:Int)(T:TypeId):c8 (w.alloc (.cells #[.int .i64 a,.int .i64 b] T)) (.slice (some ⟨w.heap.size,0,none⟩) 2 2) [a,b]:=by
 refine⟨_,2,rfl,Nat.le_refl _,by simp,fun i hi=>⟨_,rfl,?_⟩⟩;match i,hi with
 | 0,_=>simp[go_sem,nth,Addr.add]
 | 1,_=>simp[go_sem,nth,Addr.add]
theorem ba0(l:List Int)(a b:Int):J1 l [a,b]=(d8 l a&&d8 l b):=by
 unfold J1;cases h:d8 l a
 · simp[h]
 · simp[h,b79 h]
theorem F3(v u:Value)(l xs:List Int)(w:World)(h:c8 w v l)(k:c8 w u xs){b:Bool}(hb:J1 l xs=b) :
 Calls Tryz.prog 222 #[.agg #[v],u] w fun e w'=>e=.returned (.bool b)∧Ext w w':=by
 subst hb;exact bz8 v u l xs w h k
end Go.Zz
namespace Go.Zz
open Go.RowKit Go.Proofs
set_option maxHeartbeats 400000
theorem o7(v:Value)(l:List Int)(a:Int)(w:World)(h:c8 w v l){b:Bool}(hb:d8 l a=b) :
 Calls Tryz.prog 105 #[.agg #[v],.int .i64 a] w fun e w'=>e=.returned (.bool b)∧Ext w w':=by
 subst hb;exact H6 v l a w h
theorem l5(v:Value)(l:List Int)(a:Int)(w:World)(h:c8 w v l){b:Bool}(hb:d8 l a=b) :
 Calls Tryz.prog 46 #[.agg #[v],.int .i64 a] w fun e w'=>e=.returned (.bool b)∧Ext w w':=by
 subst hb;exact M2 v l a w h
end Go.Zz
namespace Go.Zz
open Go.RowKit Go.Proofs
set_option maxHeartbeats 400000
set_option maxRecDepth 4000
def loF(l:List Int)(a:Int):List Int:=if d8 l a then d6 (j1 a.toNat) else []
theorem cu0{l:List Int}{a:Int}(h:d8 l a=false):loF l a=[]:=by unfold loF;rw[h];rfl
theorem d59{l:List Int}{n:Nat}(h:d8 l n=true):loF l n=d6 (j1 n):=by unfold loF;rw[h];rfl
theorem d27(v:Value)(l:List Int)(a:Int)(w:World)(h:c8 w v l) :
 Calls Tryz.prog 44 #[.agg #[v],.int .i64 a] w fun e w'=>∃u,e=.returned u∧Own 3 w w' u (loF l a)∧Ext w w':=by
 have hE0:=(Ext.refl w).alloc (.cells #[v] 28);have hE:=Ext.refl (w.alloc (.cells #[v] 28));have hb:=d7 w v 28;have hg:∀W,Ext (w.alloc (.cells #[v] 28)) W→c8 W v l:=fun W hW=>h.ext (hE0.trans hW);clear h;cases hs:d8 l a
 · have He:=Lib.hid (cu0 hs);go_enter Tryz.func44,Tryz.ntmps44;go_wp2_with (first | (go_at_call 46;refine cx (M2 _ _ _ _ (hg _ hE)) hE ?_;clear hE;intro w' hE));go_ret;have hE2:=hE0.trans hE;exact⟨_,rfl,by rw[He.out];exact q5 (TI:=3) (n:=0) (by omega) hE2 [] rfl,hE2.alloc _⟩
 · obtain⟨n,rfl,-,hn,-⟩:=m3 hs;have He:=Lib.hid (d59 hs);go_enter Tryz.func44,Tryz.ntmps44;go_wp2_with (first | (go_at_call 46;refine cx (M2 _ _ _ _ (hg _ hE)) hE ?_;clear hE;intro w' hE) | (go_at_call 165;refine (L8 _ (hn) _).mono ?_;rintro e w1 ⟨v1,rfl,hL,hE1⟩;obtain⟨aoL,cL,adrL,rfl,hadrL,hcellL⟩:=hL.ints.nats;have hixL:=j6 (c:=cL) elI szI hadrL;clear hadrL));go_ret;have hE2:=hE0.trans hE;exact⟨_,rfl,by rw[He.out];simpa[j8] using hL.mono hE2,hE2.trans hE1⟩
end Go.Zz
namespace Go.Zz
open Go.RowKit Go.Proofs
set_option maxHeartbeats 400000
set_option maxRecDepth 4000
theorem j12(l:List Int)(a:Int)(i:Nat)(h:i<(loF l a).length) : -1≤nth (loF l a) i∧nth (loF l a) i<1000000000000:=by
 cases hs:d8 l a
 · rw[cu0 hs] at h;simp at h
 · obtain⟨n,rfl,-,hn,-⟩:=m3 hs;rw[d59 hs] at h ⊢;exact W6 n i h
theorem dv9(l:List Int)(a:Int):(loF l a).length≤24:=by
 unfold loF;split
 · rw[j8];exact C9 _
 · simp
theorem j05(l:List Int)(a:Int):fsF l a=if (loF l a).length=0 then (if d8 l a then ⟨#[110,111,110,101]⟩ else ⟨#[]⟩) else jn P5 (fun i=>j0 (nth (loF l a) i)) (loF l a).length:=by
 cases hs:d8 l a
 · rw[b60 hs,cu0 hs];rfl
 · unfold fsF loF;rw[hs];show I0 _=_;unfold I0;rfl
theorem m7(v:Value)(l:List Int)(a:Int)(w:World)(h:c8 w v l) :
 Calls Tryz.prog 11 #[.agg #[v],.int .i64 a] w fun e w'=>e=.returned (.string (fsF l a))∧Ext w w':=by
 have hE0:=(Ext.refl w).alloc (.cells #[v] 28);have hE:=Ext.refl (w.alloc (.cells #[v] 28));have hb:=d7 w v 28;have hg:∀W,Ext (w.alloc (.cells #[v] 28)) W→c8 W v l:=fun W hW=>h.ext (hE0.trans hW);clear h;have hin:=j12 l a;have hlen:=dv9 l a;have Hf:=Lib.hid (j05 l a);have Hin:=Lib.hid hin;clear hin;have hc:=fun W (hI:c8 W v l)=>d27 v l a W hI;go_enter Tryz.func11,Tryz.ntmps11;go_wp2_with (go_at_call 44;refine (hc _ (hg _ hE)).mono ?_;rintro e w1 ⟨u,rfl,hO,hE1⟩;obtain⟨aoL,cL,adrL,rfl,hlenL,hadrL,hcellL⟩:=hO.ints.op;have hixL:=j6 (c:=cL) elI szI hadrL);clear hadrL hO;obtain⟨m,hm⟩:∃m,m=loF l a:=⟨_,rfl⟩;rw[←hm] at hlen hlenL hcellL hixL Hf Hin ⊢;clear hm;go_loopw [5,7] (fun s i wr=>∃(k:Nat) (t:ByteArray),k≤m.length∧i=.int .i64 k∧s=.string t∧Hid (t=jn P5 (fun i=>j0 (nth m i)) k)∧Ext w1 wr) (fun _ i _=>m.length - (intOf i).toNat);case atStart=>exact⟨0,_,by omega,rfl,rfl,Lib.hid rfl,Ext.refl _⟩
 case round =>
  obtain⟨k,t,hk,rfl,rfl,Ht,hEr⟩:=hrel;have hts:t.size≤14*k:=by rw[Ht.out];exact Q1 _ _ (by decide) k fun i hi=>j5 (Hin.out i (by omega))
  by_cases hlt:k<m.length
  · have hck:=hcellL k _ hlt hEr;have hcF:=o5 (nth m k) (Hin.out k hlt);have hsz:(j0 (nth m k)).size≤13:=j5 (Hin.out k hlt);obtain⟨u,hu⟩:∃u,u=j0 (nth m k):=⟨_,rfl⟩;rw[←hu] at hsz hcF;have He:=Lib.hid hu;clear hu;by_cases hk0:0<k
    · have hk1:(0:Int)<k:=(by omega);go_wp2_with (refine (hcF _).mono ?_;rintro e w2 ⟨rfl,hE2⟩);go_roundw;(case rel=>exact⟨k+1,_,by omega,by go_num,rfl,Lib.hid (by rw[T9 _ _ hk0,←Ht.out,He.out];rfl),hEr.trans hE2⟩);case measure=>(simp[intOf];omega)
    · have hk1:k=0:=(by omega);subst hk1;have hix0:∀W,(Instr.indexAt 26 (.slice aoL m.length cL) (.int .i64 0)).run Tryz.prog W=.ok (.pointer (some (adrL 0))) W:=fun W=>(by simpa using hixL 0 W hlt);go_wp2_with (refine (hcF _).mono ?_;rintro e w2 ⟨rfl,hE2⟩);go_roundw;(case rel=>exact⟨1,_,by omega,rfl,rfl,Lib.hid (by rw[T0,He.out,Ht.out];rfl),hEr.trans hE2⟩);case measure=>(simp[intOf];omega)
  · have hkl:k=m.length:=(by omega);subst hkl;have hER:=(hE0.trans hE1).trans hEr;have hEb:=hE1.trans hEr;by_cases h0:m.length=0
    · have ht0:t=⟨#[]⟩:=(by rw[Ht.out,h0];rfl);subst ht0;have Hf2:Hid (fsF l a=if d8 l a then ⟨#[110,111,110,101]⟩ else ⟨#[]⟩):=Lib.hid (by rw[Hf.out,if_pos h0]);have hcS:=M2 v l a _ (hg _ hEb);clear h0 hts Hf;cases hs:d8 l a
      all_goals
       rw[hs] at Hf2 hcS
       go_wp2_with (refine hcS.mono ?_;rintro e w3 ⟨rfl,hE3⟩)
       go_ret
       exact⟨d9 Hf2.out.symm,hER.trans hE3⟩
    · have He:Hid (fsF l a=t):=Lib.hid (by rw[Hf.out,if_neg h0,Ht.out]);have h1:=Y7 P5 (fun i=>j0 (nth m i)) m.length (by omega) fun i hi=>W7 (Hin.out i hi);rw[←Ht.out] at h1;have ht1:=T2 h1;go_wp2_with fail;go_ret;exact⟨d9 He.out.symm,hER⟩
end Go.Zz
namespace Go.Zz
open Go.RowKit Go.Proofs
set_option maxHeartbeats 400000
set_option maxRecDepth 4000
def ex:ByteArray:=⟨#[120]⟩
def fgF(l:List Int):ByteArray:=if c9 l then (if l.length=0 then ⟨#[49]⟩ else jn ex (fun i=>j0 (nth l i)) l.length) else ⟨#[]⟩
theorem ba7{l:List Int}(h:c9 l=false):fgF l=⟨#[]⟩:=by unfold fgF;rw[h];rfl
theorem b18{l:List Int}(h:c9 l=true):fgF l=if l.length=0 then ⟨#[49]⟩ else jn ex (fun i=>j0 (nth l i)) l.length:=by unfold fgF;rw[h];rfl
theorem bs9{l:List Int}(h:c9 l=true)(i:Nat)(hi:i<l.length) : -1≤nth l i∧nth l i<1000000000000:=by
 have:=E2 h hi;omega
theorem j7(v:Value)(l:List Int)(w:World)(h:c8 w v l) :
 Calls Tryz.prog 97 #[.agg #[v]] w fun e w'=>e=.returned (.string (fgF l))∧Ext w w':=by
 have hop:=h.op;have hE0:=(Ext.refl w).alloc (.cells #[v] 28);have hE:=Ext.refl (w.alloc (.cells #[v] 28));have hb:=d7 w v 28;have hg:∀W,Ext (w.alloc (.cells #[v] 28)) W→c8 W v l:=fun W hW=>h.ext (hE0.trans hW);clear h;obtain⟨ao,c,adr,rfl,hlen,hadr,hcell⟩:=hop;have hix:=j6 (c:=c) elI szI hadr;clear hadr;cases hgr:c9 l
 · have He:=Lib.hid (ba7 hgr);go_enter Tryz.func97,Tryz.ntmps97;go_wp2_with (first | (go_at_call 94;refine cx (l0 _ _ _ (hg _ hE)) hE ?_;clear hE;intro w' hE));go_ret;exact⟨d9 He.out.symm,hE0.trans hE⟩
 · have Hf:=Lib.hid (b18 hgr);have Hr:=Lib.hid (bs9 hgr);by_cases h0:l.length=0
   · have He:Hid (fgF l=⟨#[49]⟩):=Lib.hid (Hf.out.trans (if_pos h0));have h00:((l.length:Int) == 0)=true:=(by rw[beq_iff_eq];omega);clear h0 Hf;go_enter Tryz.func97,Tryz.ntmps97;go_wp2_with (first | (go_at_call 94;refine cx (l0 _ _ _ (hg _ hE)) hE ?_;clear hE;intro w' hE));go_ret;exact⟨d9 He.out.symm,hE0.trans hE⟩
   · have h00:((l.length:Int) == 0)=false:=(by rw[beq_eq_false_iff_ne];omega);go_enter Tryz.func97,Tryz.ntmps97;go_wp2_with (go_at_call 94;refine (l0 _ _ _ (hg _ hE)).mono ?_;rintro e wq ⟨rfl,hE1⟩;have hb2:=hb _ ((hE.trans hE1).alloc (.cells #[] 9)));have He:Hid (fgF l=jn ex (m6 (l.map j0)) l.length):=Lib.hid ((Hf.out.trans (if_neg h0)).trans (bb1 _ _ _ _ fun i hi=>(b50 l i hi).symm));have hlen3:l.length≤3:=C0 hgr;clear hb2;have hO0:=b62 (Ext.refl wq);have hEq0:=(Ext.refl wq).alloc (.cells #[] 9);go_loopw [3,17] (fun v i wr=>∃k:Nat,k≤l.length∧i=.int .i64 k∧J0 wq wr v ((l.take k).map j0)∧Ext wq wr) (fun _ i _=>l.length - (intOf i).toNat);(case atStart=>exact⟨0,by omega,rfl,hO0,hEq0⟩);case round =>
      obtain⟨k,hk,rfl,hO,hEr⟩:=hrel;by_cases hlt:k<l.length
      · have hck:=hcell k _ hlt ((hE0.trans hE1).trans hEr);have hcI:=p5 (nth l k) (Hr.out k hlt);have hlk:((l.take k).map j0).length<1000000:=(by rw[List.length_map,List.length_take];omega);go_wp2_with (first | (go_at_call 98;with_reducible refine (hcI _).mono ?_;rintro e wc ⟨rfl,hEc⟩) | (at_builtin;refine O0 rfl _ _ rfl wq _ _ _ _ (hO.ext hEc) (hEr.trans hEc) hlk rfl rfl ?_;intro v1 w1 hO1 hEd));go_roundw;(case rel=>exact⟨k+1,by omega,by go_num,by rw[c54 _ _ hlt];exact hO1,hEd⟩);case measure=>(simp[intOf];omega)
      · have hkl:k=l.length:=(by omega);subst hkl;rw[List.take_length] at hO;have hS:=hO.strs;have hc:=bs5 _ (l.map j0) ex _ hS (by decide) (fun i hi=>by
         rw[List.length_map] at hi
         rw[b50 l i hi];exact j5 (Hr.out i hi))
        go_wp2_with (refine hc.mono ?_;rintro e w1 ⟨rfl,rfl⟩);go_ret;exact⟨d9 He.out.symm,(hE0.trans hE1).trans hEr⟩
end Go.Zz
namespace Go.Zz
open Go.RowKit Go.Proofs
set_option maxHeartbeats 400000
set_option maxRecDepth 4000
theorem c89(v:Value)(l:List Int)(w:World)(h:c8 w v l)(hgr:c9 l=false) :
 Calls Tryz.prog 41 #[.agg #[v]] w fun e w'=>e=.returned (.string (fgF l))∧Ext w w':=by
 have hop:=h.op;have hE0:=(Ext.refl w).alloc (.cells #[v] 28);have hE:=Ext.refl (w.alloc (.cells #[v] 28));have hb:=d7 w v 28;have hg:∀W,Ext (w.alloc (.cells #[v] 28)) W→c8 W v l:=fun W hW=>h.ext (hE0.trans hW);clear h;obtain⟨ao,c,adr,rfl,hlen,-,-⟩:=hop;have He:=Lib.hid (ba7 hgr);have hcG:=fun W (hW:Ext (w.alloc (.cells #[.slice ao l.length c] 28)) W)=>q9 _ l W (hg W hW);rw[hgr] at hcG;go_enter Tryz.func41,Tryz.ntmps41;go_wp2_with fail;go_loopw [3,4] (fun s i wr=>i=.int .i64 0∧s=.string ⟨#[]⟩∧Ext (w.alloc (.cells #[.slice ao l.length c] 28)) wr) (fun _ _ _=>0);case atStart=>exact⟨rfl,rfl,Ext.refl _⟩
 case round =>
  obtain⟨rfl,rfl,hEr⟩:=hrel;have hbr:=hb _ hEr;by_cases hp:0<(l.length:Int)
  · have hpB:decide (0<(l.length:Int))=true:=(by simpa using hp);go_wp2_with (first | (refine (hcG _ (hEr.trans hE3)).mono ?_;rintro e w4 ⟨rfl,hE4⟩) | (refine (hcG _ hEr).mono ?_;rintro e w3 ⟨rfl,hE3⟩;have hbr3:=hb _ (hEr.trans hE3)));go_ret;exact⟨d9 He.out.symm,((hE0.trans hEr).trans hE3).trans hE4⟩
  · have hpB:decide (0<(l.length:Int))=false:=(by simpa using hp);go_wp2_with (refine (hcG _ hEr).mono ?_;rintro e w3 ⟨rfl,hE3⟩);go_ret;exact⟨d9 He.out.symm,(hE0.trans hEr).trans hE3⟩
theorem c47(v:Value)(l:List Int)(w:World)(h:c8 w v l)(hgr:c9 l=true) :
 Calls Tryz.prog 41 #[.agg #[v]] w fun e w'=>e=.returned (.string (fgF l))∧Ext w w':=by
 have hop:=h.op;have hE0:=(Ext.refl w).alloc (.cells #[v] 28);have hE:=Ext.refl (w.alloc (.cells #[v] 28));have hb:=d7 w v 28;have hg:∀W,Ext (w.alloc (.cells #[v] 28)) W→c8 W v l:=fun W hW=>h.ext (hE0.trans hW);clear h;obtain⟨ao,c,adr,rfl,hlen,hadr,hcell⟩:=hop;have hix:=j6 (c:=c) elI szI hadr;clear hadr;have Hf:=Lib.hid (b18 hgr);have Hr:=Lib.hid (bs9 hgr);have hcG:=fun W (hW:Ext (w.alloc (.cells #[.slice ao l.length c] 28)) W)=>q9 _ l W (hg W hW);have hl3:=C0 hgr;rw[hgr] at hcG;go_enter Tryz.func41,Tryz.ntmps41;go_wp2_with fail;go_loopw [3,4] (fun s i wr=>∃(k:Nat) (t:ByteArray),k≤l.length∧i=.int .i64 k∧s=.string t∧Hid (t=jn ex (fun i=>j0 (nth l i)) k)∧Ext (w.alloc (.cells #[.slice ao l.length c] 28)) wr) (fun _ i _=>l.length - (intOf i).toNat);case atStart=>exact⟨0,_,by omega,rfl,rfl,Lib.hid rfl,Ext.refl _⟩
 case round =>
  obtain⟨k,t,hk,rfl,rfl,Ht,hEr⟩:=hrel;have hbr:=hb _ hEr;have hts:t.size≤14*k:=by rw[Ht.out];exact Q1 _ _ (by decide) k fun i hi=>j5 (Hr.out i (by omega))
  by_cases hlt:k<l.length
  · have hcF:=o5 (nth l k) (Hr.out k hlt);have hsz:(j0 (nth l k)).size≤13:=j5 (Hr.out k hlt);obtain⟨u,hu⟩:∃u,u=j0 (nth l k):=⟨_,rfl⟩;rw[←hu] at hsz hcF;have He:=Lib.hid hu;clear hu;by_cases hk0:0<k
    · have hk1:(0:Int)<k:=(by omega);go_wp2_with (first | (go_at_call 45;refine (hcF _).mono ?_;rintro e w4 ⟨rfl,hE4⟩) | (refine (hcG _ hEr).mono ?_;rintro e w3 ⟨rfl,hE3⟩;have hbr3:=hb _ (hEr.trans hE3);have hck3:=hcell k _ hlt ((hE0.trans hEr).trans hE3)));go_roundw;(case rel=>exact⟨k+1,_,by omega,by go_num,rfl,Lib.hid (by rw[T9 _ _ hk0,←Ht.out,He.out];rfl),(hEr.trans hE3).trans hE4⟩);case measure=>(simp[intOf];omega)
    · have hk1:k=0:=(by omega);subst hk1;have hix0:∀W,(Instr.indexAt 26 (.slice ao l.length c) (.int .i64 0)).run Tryz.prog W=.ok (.pointer (some (adr 0))) W:=fun W=>(by simpa using hix 0 W hlt);go_wp2_with (first | (go_at_call 45;refine (hcF _).mono ?_;rintro e w4 ⟨rfl,hE4⟩) | (refine (hcG _ hEr).mono ?_;rintro e w3 ⟨rfl,hE3⟩;have hbr3:=hb _ (hEr.trans hE3);have hck3:=hcell 0 _ hlt ((hE0.trans hEr).trans hE3)));go_roundw;(case rel=>exact⟨1,_,by omega,rfl,rfl,Lib.hid (by rw[T0,He.out,Ht.out];rfl),(hEr.trans hE3).trans hE4⟩);case measure=>(simp[intOf];omega)
  · have hkl:k=l.length:=(by omega);subst hkl;have hER:=hE0.trans hEr;have hcS:=hcG _ hEr;by_cases h0:l.length=0
    · have ht0:t=⟨#[]⟩:=(by rw[Ht.out,h0];rfl);subst ht0;have Hf2:Hid (fgF l=⟨#[49]⟩):=Lib.hid (by rw[Hf.out,if_pos h0]);clear h0 hts Hf;go_wp2_with (refine hcS.mono ?_;rintro e w3 ⟨rfl,hE3⟩);go_ret;exact⟨d9 Hf2.out.symm,hER.trans hE3⟩
    · have He:Hid (fgF l=t):=Lib.hid (by rw[Hf.out,if_neg h0,Ht.out]);have h1:=Y7 ex (fun i=>j0 (nth l i)) l.length (by omega) fun i hi=>W7 (Hr.out i hi);rw[←Ht.out] at h1;have ht1:=T2 h1;go_wp2_with fail;go_ret;exact⟨d9 He.out.symm,hER⟩
theorem m5(v:Value)(l:List Int)(w:World)(h:c8 w v l) :
 Calls Tryz.prog 41 #[.agg #[v]] w fun e w'=>e=.returned (.string (fgF l))∧Ext w w':=by
 cases hg:c9 l
 · exact c89 v l w h hg
 · exact c47 v l w h hg
end Go.Zz
namespace Go.Zz
open Go.RowKit Go.Proofs
set_option maxHeartbeats 400000
def E6(a b:Nat):Nat:=a ^^^ (a &&& b)
theorem L6(a b i:Nat):(E6 a b).testBit i=(a.testBit i && !b.testBit i):=by
 unfold E6;rw[Nat.testBit_xor,Nat.testBit_and];cases a.testBit i<;>cases b.testBit i<;>rfl
theorem bh2{a b n:Nat}(h:a<2 ^ n):E6 a b<2 ^ n:=Nat.xor_lt_two_pow h (Nat.lt_of_le_of_lt Nat.and_le_left h)
theorem b99:∀(n a b:Nat),a<2 ^ n→E6 a b+(a &&& b)=a
 | 0,a,b,h=>by
  obtain rfl:a=0:=by simp at h;omega
  simp[E6]
 | n+1,a,b,h=>by
  have hp:2 ^ (n+1)=2 ^ n*2:=Nat.pow_succ 2 n
  have ih:=b99 n (a / 2) (b / 2) (by omega)
  have d1:E6 a b / 2=E6 (a / 2) (b / 2):=by
   apply Nat.eq_of_testBit_eq;intro i;rw[←Nat.testBit_succ,L6,L6,Nat.testBit_succ,Nat.testBit_succ]
  have d2:(a &&& b) / 2=(a / 2) &&& (b / 2):=by
   apply Nat.eq_of_testBit_eq;intro i;rw[←Nat.testBit_succ,Nat.testBit_and,Nat.testBit_and,Nat.testBit_succ,Nat.testBit_succ]
  have m1:(E6 a b).testBit 0=(a.testBit 0 && !b.testBit 0):=L6 a b 0
  have m2:(a &&& b).testBit 0=(a.testBit 0&&b.testBit 0):=Nat.testBit_and a b 0
  rw[Nat.testBit_zero,Nat.testBit_zero,Nat.testBit_zero] at m1 m2
  have e1:E6 a b % 2+(a &&& b) % 2=a % 2:=by
   rw[Bool.eq_iff_iff] at m1 m2;simp only[decide_eq_true_eq,Bool.and_eq_true,Bool.not_eq_true',decide_eq_false_iff_not] at m1 m2;omega
  omega
theorem dc3{a b:Nat}:E6 a b=0↔∀i,a.testBit i=true→b.testBit i=true:=by
 constructor
 · intro h i hi;have:=L6 a b i;rw[h,Nat.zero_testBit,hi] at this;simpa using this.symm
 · intro h;apply Nat.eq_of_testBit_eq;intro i;rw[L6,Nat.zero_testBit];cases e:a.testBit i
   · rfl
   · rw[h i e];rfl
theorem df4{a b:Nat}(ha:a<2 ^ 63)(hb:b<2 ^ 63):da0 a b=((E6 a b:Nat):Int):=by
 show IntKind.i64.wrap ((BitVec.ofInt IntKind.i64.bits (a:Int) &&& ~~~ BitVec.ofInt IntKind.i64.bits (b:Int)).toNat:Int)=_;have e:(BitVec.ofInt IntKind.i64.bits (a:Int) &&& ~~~ BitVec.ofInt IntKind.i64.bits (b:Int))=(BitVec.ofInt IntKind.i64.bits (a:Int) ^^^ (BitVec.ofInt IntKind.i64.bits (a:Int) &&& BitVec.ofInt IntKind.i64.bits (b:Int))):=by
  ext i hi;simp only[BitVec.getElem_and,BitVec.getElem_xor,BitVec.getElem_not];cases (BitVec.ofInt IntKind.i64.bits (a:Int))[i]<;>cases (BitVec.ofInt IntKind.i64.bits (b:Int))[i]<;>rfl
 rw[e,BitVec.toNat_xor,BitVec.toNat_and,bh5 ha,bh5 hb];exact bo3 (bh2 ha)
def bm(f:Nat→Nat):Nat→Nat × Nat
 | 0=>(0,0)
 | k+1=>if (bm f k).2<f k then (k,f k) else bm f k
theorem ba2{f:Nat→Nat}{k:Nat}(h:(bm f k).2<f k):bm f (k+1)=(k,f k):=by rw[bm,if_pos h]
theorem bl0{f:Nat→Nat}{k:Nat}(h:¬(bm f k).2<f k):bm f (k+1)=bm f k:=by rw[bm,if_neg h]
theorem dz5(f:Nat→Nat):bm f 1=(0,f 0):=by
 by_cases h:(bm f 0).2<f 0
 · exact ba2 h
 · rw[bl0 h];have:f 0=0:=(by simp[bm] at h;exact h);rw[this];rfl
theorem co8(f:Nat→Nat):∀k j,j<k→f j≤(bm f k).2
 | k+1,j,h=>by
  by_cases e:(bm f k).2<f k
  · rw[ba2 e]
    by_cases hj:j=k
    · subst hj;exact Nat.le_refl _
    · have:=co8 f k j (by omega);show f j≤f k;omega
  · rw[bl0 e]
    by_cases hj:j=k
    · subst hj;omega
    · exact co8 f k j (by omega)
theorem dd0(f:Nat→Nat):∀k,(bm f k).2=0∨(bm f k).2=f (bm f k).1
 | 0=>Or.inl rfl
 | k+1=>by
  by_cases e:(bm f k).2<f k
  · rw[ba2 e];exact Or.inr rfl
  · rw[bl0 e];exact dd0 f k
theorem dr8(f:Nat→Nat):∀k,(bm f k).1≤k - 1
 | 0=>Nat.le_refl 0
 | k+1=>by
  by_cases e:(bm f k).2<f k
  · rw[ba2 e];exact Nat.le_refl _
  · rw[bl0 e];have:=dr8 f k;omega
def T8(l:List Int)(a left x:Nat):Nat:=cnt (j2 l a x &&& left)
def F0(l:List Int)(a left:Nat):Nat:=(bm (T8 l a left) (ord l)).1
def P9(l:List Int)(a:Nat):Nat→Nat→Nat→Nat
 | 0,out,_=>out
 | n+1,out,left=>if left=0 then out else P9 l a n (out ||| 2 ^ F0 l a left) (E6 left (j2 l a (F0 l a left)))
theorem c01(l:List Int)(a n out:Nat):P9 l a n out 0=out:=by cases n<;>rfl
theorem bs6{l:List Int}{a n out left:Nat}(h:left≠0) :
 P9 l a (n+1) out left=P9 l a n (out ||| 2 ^ F0 l a left) (E6 left (j2 l a (F0 l a left))):=by rw[P9,if_neg h]
def j4(l:List Int):Nat:=pw (ord l) - 1
def K9(l:List Int)(a:Int):Int:=if d8 l a&&decide (a≠0) then (P9 l a.toNat (j4 l) 0 (j4 l):Int) else 0
def q6(l:List Int)(a:Int):Bool:=d8 l a&&decide (a≠0)
theorem I5{l:List Int}{a:Int}(h:d8 l a=false):q6 l a=false:=by unfold q6;rw[h];rfl
theorem F4(l:List Int):q6 l 0=false:=by unfold q6;simp
theorem J5{l:List Int}{n:Nat}(h:d8 l n=true)(h0:0<n):q6 l n=true:=by unfold q6;rw[h];simp;omega
theorem b78{l:List Int}{a:Int}(h:q6 l a=false):K9 l a=0:=by unfold K9;unfold q6 at h;rw[h];rfl
theorem c00{l:List Int}{n:Nat}(h:q6 l n=true):K9 l n=(P9 l n (j4 l) 0 (j4 l):Int):=by unfold K9;unfold q6 at h;rw[h];rfl
theorem ba9(l:List Int):j4 l<2 ^ ord l:=by unfold j4;have:=R5 (ord l);rw[←cm6];omega
theorem be2(l:List Int)(i:Nat):(j4 l).testBit i=decide (i<ord l):=by unfold j4;rw[cm6];exact Nat.testBit_two_pow_sub_one _ _
theorem cf4{l:List Int}(h:c9 l=true)(a left:Nat):F0 l a left<ord l:=by
 unfold F0;have:=dr8 (T8 l a left) (ord l);have:=(l8 h).1;omega
theorem da6{a i:Nat}(h:a.testBit i=true):a≠0:=by intro e;rw[e,Nat.zero_testBit] at h;cases h
theorem b24{a:Nat}(h:a≠0):∃i,a.testBit i=true:=by
 refine Classical.byContradiction fun hn=>h (Nat.eq_of_testBit_eq fun i=>?_);rw[Nat.zero_testBit];cases e:a.testBit i
 · rfl
 · exact absurd ⟨i,e⟩ hn
theorem cp7{a:Nat}(h:cnt a≠0):a≠0:=fun e=>h (by rw[e];exact S8)
theorem G9{a n i:Nat}(ha:a<2 ^ n)(h:a.testBit i=true):i<n:=by
 refine Classical.byContradiction fun hn=>?_;rw[P7 ha (by omega)] at h;cases h
theorem ds5{l:List Int}(hg:c9 l=true){a left:Nat}(ha:a≠0)(ha2:a<2 ^ ord l)(hl:left≠0)(hl2:left<2 ^ ord l) :
 ∃x,x<ord l∧T8 l a left x≠0:=by
 obtain⟨y,hy⟩:=b24 ha;obtain⟨z,hz⟩:=b24 hl;have hy2:=G9 ha2 hy;have hz2:=G9 hl2 hz;have ho:=m0 hg;have hb:=(l8 hg).2;have he:j9 l (j9 l z (p4 l y)) y=z:=by
  rw[G6 l ho,C8 l (p4 l y) y,K5 l ho,C8 l z 0,C5 l ho z hz2]
 refine⟨j9 l z (p4 l y),E9 l ho _ _,?_⟩;have hbit:(j2 l a (j9 l z (p4 l y)) &&& left).testBit z=true:=by
  rw[Nat.testBit_and,hz,D0.2 ⟨y,by omega,hy,he⟩];rfl
 have hp:=Q8 (Nat.pos_of_ne_zero (da6 hbit)) (Nat.lt_of_le_of_lt Nat.and_le_right (Nat.lt_of_lt_of_le hl2 (E1 hg)));unfold T8;omega
theorem c02{l:List Int}(hg:c9 l=true){a left:Nat}(ha:a≠0)(ha2:a<2 ^ ord l)(hl:left≠0)(hl2:left<2 ^ ord l) :
 E6 left (j2 l a (F0 l a left))<left:=by
 obtain⟨x,hx,hn⟩:=ds5 hg ha ha2 hl hl2;have h1:=co8 (T8 l a left) (ord l) x hx;have h2:T8 l a left (F0 l a left)≠0:=by
  unfold F0;rcases dd0 (T8 l a left) (ord l) with h | h<;>omega
 have h3:j2 l a (F0 l a left) &&& left≠0:=cp7 h2;have h4:=b99 (ord l) left (j2 l a (F0 l a left)) hl2;rw[Nat.and_comm] at h3;omega
theorem df9{l:List Int}(hg:c9 l=true)(a x c:Nat):E6 (j2 l a x) c=j2 l a x &&& E6 (j4 l) c:=by
 apply Nat.eq_of_testBit_eq;intro i;rw[L6,Nat.testBit_and,L6,be2];cases e:(j2 l a x).testBit i
 · rfl
 · have:=G9 (U3 (m0 hg) a x) e;simp[this]
theorem dg0(l:List Int)(s c:Nat):E6 (j4 l) (c ||| s)=E6 (E6 (j4 l) c) s:=by
 apply Nat.eq_of_testBit_eq;intro i;rw[L6,L6,L6,Nat.testBit_or];cases (j4 l).testBit i<;>cases c.testBit i<;>cases s.testBit i<;>rfl
theorem ch7{l:List Int}{c:Nat}(hc:c<2 ^ ord l):E6 (j4 l) c=0↔c=j4 l:=by
 rw[dc3];constructor
 · intro h;apply Nat.eq_of_testBit_eq;intro i;cases e:(j4 l).testBit i
   · rw[be2] at e;exact P7 hc (by have:=of_decide_eq_false e;omega)
   · exact h i e
 · rintro rfl i hi;exact hi
theorem c74(l:List Int):E6 (j4 l) 0=j4 l:=by
 apply Nat.eq_of_testBit_eq;intro i;rw[L6,Nat.zero_testBit];simp
def bmI(f:Nat→Nat)(k:Nat):Nat × Int:=if k=0 then (0,-1) else ((bm f k).1,((bm f k).2:Int))
theorem co7(f:Nat→Nat):bmI f 0=(0,-1):=rfl
theorem b86(f:Nat→Nat){k:Nat}(h:k≠0):bmI f k=((bm f k).1,((bm f k).2:Int)):=by unfold bmI;rw[if_neg h]
theorem dt7{f:Nat→Nat}{k:Nat}(h:(bmI f k).2<(f k:Int)):bmI f (k+1)=(k,(f k:Int)):=by
 rw[b86 f (Nat.succ_ne_zero k)];by_cases hk:k=0
 · subst hk;rw[dz5]
 · rw[b86 f hk] at h;rw[ba2 (f:=f) (k:=k) (by have:((bm f k).2:Int)<(f k:Int):=h;omega)]
theorem dz4{f:Nat→Nat}{k:Nat}(h:¬(bmI f k).2<(f k:Int)):bmI f (k+1)=bmI f k:=by
 by_cases hk:k=0
 · subst hk;rw[co7] at h;exact absurd (show (-1:Int)<(f 0:Int) by omega) h
 · rw[b86 f (Nat.succ_ne_zero k)];rw[b86 f hk] at h ⊢;rw[bl0 (f:=f) (k:=k) (by intro e;exact h (show ((bm f k).2:Int)<(f k:Int) by omega))]
theorem d87{f:Nat→Nat}{B:Nat}(h:∀j,f j≤B):∀k,(bm f k).2≤B
 | 0=>Nat.zero_le _
 | k+1=>by
  by_cases e:(bm f k).2<f k
  · rw[ba2 e];exact h k
  · rw[bl0 e];exact d87 h k
theorem dz3{f:Nat→Nat}{B:Nat}(h:∀j,f j≤B)(k:Nat) : -1≤(bmI f k).2∧(bmI f k).2≤B:=by
 by_cases hk:k=0
 · subst hk;rw[co7];constructor<;>simp<;>omega
 · rw[b86 f hk];have:=d87 h k;constructor<;>simp<;>omega
theorem bx4(l:List Int)(a left:Nat):∀j,T8 l a left j≤24:=fun _=>p7 _
theorem dl2{l:List Int}(h:c9 l=true)(a left:Nat):(bmI (T8 l a left) (ord l)).1=F0 l a left:=by
 rw[b86 _ (by have:=(l8 h).1;omega)];rfl
end Go.Zz
