/- How often a number stands; sums of parts; sequences with the sum zero and without such parts. -/
import Derived.Test.YtnnbhcalddkmmaaGreatGr11
import Derived.Test.YtnnbhcalddkmmaaGreatGr15
import Derived.Test.YtnnbhcalddkmmaaGreatGr6
import Derived.Test.YtnnbhcalddkmmaaGreatGr4
import Derived.Test.YtnnbhcalddkmmaaGreatGr8
import Derived.Test.YtnnbhcalddkmmaaGreatGr3
import Derived.Test.YtnnbhcalddkmmaaGreatGr16
namespace Go.Zz
open Go.RowKit Go.Proofs
set_option maxHeartbeats 1000000
set_option maxRecDepth 4000
theorem bq7(u:Value)(xs:List Int)(x:Int)(w:World)(hu:c8 w u xs) :
 Calls Tryz.prog 233 #[u,.int .i64 x] w fun e w'=>e=.returned (.int .i64 (bm5 xs x:Nat))∧w=w':=by
 obtain⟨ao,c,adr,rfl,hlen,hadr,hcell⟩:=hu.op;have hix:=j6 (c:=c) elI szI hadr;clear hadr hu;go_enter Tryz.func233,Tryz.ntmps233;go_wp2_with fail;go_loop [5,10] (fun n i=>∃k:Nat,k≤xs.length∧i=.int .i64 k∧n=.int .i64 (Y8 xs x k:Nat)) (fun _ i=>xs.length - (intOf i).toNat);case atStart=>exact⟨0,by omega,rfl,rfl⟩
 case round =>
  obtain⟨k,hk,rfl,rfl⟩:=hrel;have hm:=bm6 xs x k;by_cases hlt:k<xs.length
  · have hck:=hcell k w hlt (Ext.refl _);by_cases e:nth xs k=x
    · have Hn:=Lib.hid (ci1 e);have hq1:(x == nth xs k)=true:=(by rw[e];simp);have hq2:(nth xs k == x)=true:=(by rw[e];simp);clear e;go_wp2_with fail;go_round;(case rel=>exact⟨k+1,by omega,by go_num,by rw[Hn.out];go_num⟩);case measure=>(simp[intOf];omega)
    · have Hn:=Lib.hid (cu5 e);have hq1:(x == nth xs k)=false:=(by rw[beq_eq_false_iff_ne];exact fun h=>e h.symm);have hq2:(nth xs k == x)=false:=(by rw[beq_eq_false_iff_ne];exact e);clear e;go_wp2_with fail;go_round;(case rel=>exact⟨k+1,by omega,by go_num,by rw[Hn.out]⟩);case measure=>(simp[intOf];omega)
  · have hkl:k=xs.length:=(by omega);subst hkl;go_wp2_with fail;go_ret;exact⟨rfl,rfl⟩
theorem bp8(u:Value)(xs:List Int)(x:Int)(w:World)(hu:c8 w u xs) :
 Calls Tryz.prog 184 #[u,.int .i64 x] w fun e w'=>e=.returned (.int .i64 (bm5 xs x:Nat))∧w=w':=by
 obtain⟨ao,c,adr,rfl,hlen,hadr,hcell⟩:=hu.op;have hix:=j6 (c:=c) elI szI hadr;clear hadr hu;go_enter Tryz.func184,Tryz.ntmps184;go_wp2_with fail;go_loop [5,6] (fun n i=>∃k:Nat,k≤xs.length∧i=.int .i64 k∧n=.int .i64 (Y8 xs x k:Nat)) (fun _ i=>xs.length - (intOf i).toNat);case atStart=>exact⟨0,by omega,rfl,rfl⟩
 case round =>
  obtain⟨k,hk,rfl,rfl⟩:=hrel;have hm:=bm6 xs x k;by_cases hlt:k<xs.length
  · have hck:=hcell k w hlt (Ext.refl _);by_cases e:nth xs k=x
    · have Hn:=Lib.hid (ci1 e);have hq1:(x == nth xs k)=true:=(by rw[e];simp);have hq2:(nth xs k == x)=true:=(by rw[e];simp);clear e;go_wp2_with fail;go_round;(case rel=>exact⟨k+1,by omega,by go_num,by rw[Hn.out];go_num⟩);case measure=>(simp[intOf];omega)
    · have Hn:=Lib.hid (cu5 e);have hq1:(x == nth xs k)=false:=(by rw[beq_eq_false_iff_ne];exact fun h=>e h.symm);have hq2:(nth xs k == x)=false:=(by rw[beq_eq_false_iff_ne];exact e);clear e;go_wp2_with fail;go_round;(case rel=>exact⟨k+1,by omega,by go_num,by rw[Hn.out]⟩);case measure=>(simp[intOf];omega)
  · have hkl:k=xs.length:=(by omega);subst hkl;go_wp2_with fail;go_ret;exact⟨rfl,rfl⟩
end Go.Zz
namespace Go.Zz
open Go.RowKit Go.Proofs
set_option maxHeartbeats 1000000
set_option maxRecDepth 4000
def pcB(X:List Nat)(i:Nat):ByteArray:=if 1<bm5 (d6 X) (d5 X i) then (j0 (d5 X i)++(⟨#[94]⟩:ByteArray))++j0 (bm5 (d6 X) (d5 X i):Nat) else j0 (d5 X i)
def fqL(X:List Nat):Nat→List ByteArray
 | 0=>[]
 | k+1=>if 0<k∧d5 X (k - 1)=d5 X k then fqL X k else fqL X k++[pcB X k]
theorem cs0{X:List Nat}{k:Nat}(h0:0<k)(h:d5 X (k - 1)=d5 X k):fqL X (k+1)=fqL X k:=by
 conv=>lhs;unfold fqL
 rw[if_pos ⟨h0,h⟩]
theorem cb5{X:List Nat}{k:Nat}(h:¬(0<k∧d5 X (k - 1)=d5 X k)):fqL X (k+1)=fqL X k++[pcB X k]:=by
 conv=>lhs;unfold fqL
 rw[if_neg h]
theorem b44(X:List Nat):∀k,(fqL X k).length≤k
 | 0=>Nat.le_refl _
 | k+1=>by
  have:=b44 X k
  unfold fqL;split
  · omega
  · simp;omega
theorem cu6{X:List Nat}(hX:X.length≤1000)(x:Int) : -1≤((bm5 (d6 X) x:Nat):Int)∧((bm5 (d6 X) x:Nat):Int)<1000000000000:=by
 have:=bm6 (d6 X) x (d6 X).length;rw[j8] at this;unfold bm5;rw[j8];omega
theorem dp4{X:List Nat}(hX:X.length≤1000)(h24:∀x∈X,x<24){i:Nat}(hi:i<X.length):(pcB X i).size≤27:=by
 have h1:=h24 _ (o6 hi);have h2:=j5 (n:=(d5 X i:Int)) (by omega);have h3:=j5 (cu6 hX (d5 X i));unfold pcB;split
 · rw[ByteArray.size_append,ByteArray.size_append];have:(⟨#[94]⟩:ByteArray).size=1:=rfl;omega
 · omega
theorem b45{X:List Nat}(hX:X.length≤1000)(h24:∀x∈X,x<24):∀k,k≤X.length→∀b∈fqL X k,b.size≤27
 | 0,_,b,hb=>by cases hb
 | k+1,hk,b,hb=>by
  have ih:=b45 hX h24 k (by omega)
  unfold fqL at hb
  split at hb
  · exact ih b hb
  · rw[List.mem_append,List.mem_singleton] at hb
    rcases hb with hb | rfl
    · exact ih b hb
    · exact dp4 hX h24 (by omega)
def sp1:ByteArray:=⟨#[32]⟩
def fqF(l xs:List Int):ByteArray:=if L2 l xs then (if xs.length=0 then ⟨#[110,111,110,101]⟩ else jn sp1 (m6 (fqL (xs.map Int.toNat) xs.length)) (fqL (xs.map Int.toNat) xs.length).length) else ⟨#[]⟩
theorem bs3{l xs:List Int}(h:L2 l xs=false):fqF l xs=⟨#[]⟩:=by unfold fqF;rw[h];rfl
theorem ba8{l xs:List Int}(h:L2 l xs=true)(h0:xs.length=0):fqF l xs=⟨#[110,111,110,101]⟩:=by unfold fqF;rw[h,if_pos rfl,if_pos h0]
theorem bi1{l:List Int}{X:List Nat}(h:L2 l (d6 X)=true)(h0:¬X.length=0):fqF l (d6 X)=jn sp1 (m6 (fqL X X.length)) (fqL X X.length).length:=by
 unfold fqF;rw[h,if_pos rfl,j8,if_neg h0,dn6]
theorem bq2(v u:Value)(l xs:List Int)(w:World)(h:c8 w v l)(hu:c8 w u xs) :
 Calls Tryz.prog 125 #[.agg #[v],u] w fun e w'=>e=.returned (.string (fqF l xs))∧Ext w w':=by
 obtain⟨wb,Hwb,hE0,hb,hg,hE,Hsz⟩:=j60 28 h;clear h;have hbx:=hb wb hE;have HU:=Lib.hid (fun W (hW:Ext wb W)=>hu.ext (hE0.trans hW));cases hs:L2 l xs
 · have Hs:=Lib.hid (bs3 hs);have cS:=fun W (hW:Ext wb W)=>bh1 v u l xs W (hg _ hW) (HU.out _ hW) hs;go_enter Tryz.func125,Tryz.ntmps125;go_wp2_with fail;rw[←Hwb.out];refine (cS _ hE).mono ?_;rintro e w1 ⟨rfl,hE1⟩;go_wp2_with fail;go_ret;exact⟨d9 Hs.out.symm,hE0.trans hE1⟩
 have cS:=fun W (hW:Ext wb W)=>bh1 v u l xs W (hg _ hW) (HU.out _ hW) hs;obtain⟨X,rfl,-,hX12,hgr,hX⟩:=bc4 hs;have hu2:=hu.ext hE0;obtain⟨ao,c,adr,rfl,hadr,hcell⟩:=hu2.nats;have hix:=j6 (c:=c) elI szI hadr;by_cases h0:X.length=0
 · have Hs:=Lib.hid (ba8 hs (by rw[j8];exact h0));have h00:(((X.length:Nat):Int) == 0)=true:=(by rw[h0];rfl);clear h0 hX hcell hix hadr;go_enter Tryz.func125,Tryz.ntmps125;go_wp2_with fail;rw[←Hwb.out];refine (cS _ hE).mono ?_;rintro e w1 ⟨rfl,hE1⟩;go_wp2_with fail;go_ret;exact⟨d9 Hs.out.symm,hE0.trans hE1⟩
 have Hs:=Lib.hid (bi1 hs h0);have h00:(((X.length:Nat):Int) == 0)=false:=by rw[beq_eq_false_iff_ne];omega
 have Hsz:=Lib.hid (b45 (X:=X) (by omega) hX X.length (Nat.le_refl _));have HcX:=Lib.hid hcell;have HX:=Lib.hid hX;clear hadr hcell h0 hs hgr hu hX;go_enter Tryz.func125,Tryz.ntmps125;go_wp2_with fail;rw[←Hwb.out];refine (cS _ hE).mono ?_;rintro e w1 ⟨rfl,hE1⟩;have hO0:=b62 (Ext.refl w1);have hEO:=(Ext.refl w1).alloc (.cells #[] 9);go_wp2_with fail;go_loopw [5,20] (fun ov iv wr=>∃k:Nat,k≤X.length∧iv=.int .i64 k∧J0 w1 wr ov (fqL X k)∧Ext w1 wr) (fun _ iv _=>X.length - (intOf iv).toNat);case atStart=>exact⟨0,by omega,rfl,hO0,hEO⟩
 case round =>
  clear hO0 hEO;obtain⟨k,hk,rfl,hO,hF⟩:=hrel;have hEr:=hE1.trans hF;by_cases hlt:k<X.length
  · have hx24:=HX.out _ (o6 hlt);have hck:=HcX.out k wr hlt hEr;by_cases hsame:0<k∧d5 X (k - 1)=d5 X k
    · have Hn:=Lib.hid (cs0 hsame.1 hsame.2);have hk0:(0:Int)<(k:Int):=(by omega);have ix1:∀W,(Instr.indexAt 26 (.slice ao X.length c) (.int .i64 ((k:Int) - 1))).run Tryz.prog W=.ok (.pointer (some (adr (k - 1)))) W:=fun W=>(by rw[show ((k:Int) - 1)=((k - 1:Nat):Int) by omega];exact hix _ W (by omega));have hck1:wr.cell? (adr (k - 1))=some (.int .i64 (d5 X k:Int)):=(by rw[←hsame.2];exact HcX.out (k - 1) wr (by omega) hEr);clear hsame;go_wp2_with fail;go_roundw;(case rel=>exact⟨k+1,by omega,by go_num,by rw[Hn.out];exact hO,hF⟩);case measure=>(simp[intOf];omega)
    · have Hn:=Lib.hid (cb5 hsame);have hfl:=b44 X k;have hln:(fqL X k).length<1000000:=(by omega);obtain⟨x,hx⟩:∃x,x=d5 X k:=⟨_,rfl⟩;rw[←hx] at hck hx24;have cI:=fun W=>p5 (x:Int) (by omega) W;have cM:=fun W (hW:Ext wb W)=>bq7 (.slice ao X.length c) (d6 X) (x:Int) W (HU.out _ hW);have hmi:=cu6 (X:=X) (by omega) (x:Int);obtain⟨M,hM⟩:∃M,M=bm5 (d6 X) (x:Int):=⟨_,rfl⟩;rw[←hM] at cM hmi;have cJ:=fun W=>p5 (M:Int) hmi W;have hs1:=j5 (n:=(x:Int)) (by omega);have hs2:=j5 hmi;by_cases hk0:0<k
      · have hkI:(0:Int)<(k:Int):=(by omega);have ix1:∀W,(Instr.indexAt 26 (.slice ao X.length c) (.int .i64 ((k:Int) - 1))).run Tryz.prog W=.ok (.pointer (some (adr (k - 1)))) W:=fun W=>(by rw[show ((k:Int) - 1)=((k - 1:Nat):Int) by omega];exact hix _ W (by omega));have hck1:=HcX.out (k - 1) wr (by omega) hEr;have hne:(((d5 X (k - 1):Nat):Int) == (x:Int))=false:=by
         rw[beq_eq_false_iff_ne,hx];intro e;exact hsame ⟨hk0,by omega⟩
        by_cases hgt:1<M
        · have hgI:(1:Int)<(M:Int):=(by omega);have Hp:Hid (pcB X k=(j0 (x:Int)++(⟨#[94]⟩:ByteArray))++j0 (M:Int)):=Lib.hid (by unfold pcB;rw[←hx,←hM,if_pos hgt]);clear hx hM hsame hgt;go_wp2_with (first | (go_at_call 98;with_reducible refine (cI _).mono ?_;rintro e2 w2 ⟨rfl,hE2⟩;have hE2b:=hEr.trans hE2) | (go_at_call 233;refine (cM _ hE2b).mono ?_;rintro e' w' ⟨rfl,rfl⟩) | (go_at_call 98;with_reducible refine (cJ _).mono ?_;rintro e3 w3 ⟨rfl,hE3⟩;have hE23:=hE2.trans hE3) | (at_builtin;refine O0 rfl _ _ rfl w1 _ _ _ _ (hO.ext hE23) (hF.trans hE23) hln rfl rfl ?_;intro v1 w4 hO1 hE4));go_roundw;(case rel=>exact⟨k+1,by omega,by go_num,by rw[Hn.out,Hp.out];exact hO1,hE4⟩);case measure=>(simp[intOf];omega)
        · have hgI:¬(1:Int)<(M:Int):=(by omega);have Hp:Hid (pcB X k=j0 (x:Int)):=Lib.hid (by unfold pcB;rw[←hx,←hM,if_neg hgt]);clear hx hM hsame hgt;go_wp2_with (first | (go_at_call 98;with_reducible refine (cI _).mono ?_;rintro e2 w2 ⟨rfl,hE2⟩;have hE2b:=hEr.trans hE2) | (go_at_call 233;refine (cM _ hE2b).mono ?_;rintro e' w' ⟨rfl,rfl⟩) | (at_builtin;refine O0 rfl _ _ rfl w1 _ _ _ _ (hO.ext hE2) (hF.trans hE2) hln rfl rfl ?_;intro v1 w4 hO1 hE4));go_roundw;(case rel=>exact⟨k+1,by omega,by go_num,by rw[Hn.out,Hp.out];exact hO1,hE4⟩);case measure=>(simp[intOf];omega)
      · have hkI:¬(0:Int)<(k:Int):=(by omega);by_cases hgt:1<M
        · have hgI:(1:Int)<(M:Int):=(by omega);have Hp:Hid (pcB X k=(j0 (x:Int)++(⟨#[94]⟩:ByteArray))++j0 (M:Int)):=Lib.hid (by unfold pcB;rw[←hx,←hM,if_pos hgt]);clear hx hM hsame hgt;go_wp2_with (first | (go_at_call 98;with_reducible refine (cI _).mono ?_;rintro e2 w2 ⟨rfl,hE2⟩;have hE2b:=hEr.trans hE2) | (go_at_call 233;refine (cM _ hE2b).mono ?_;rintro e' w' ⟨rfl,rfl⟩) | (go_at_call 98;with_reducible refine (cJ _).mono ?_;rintro e3 w3 ⟨rfl,hE3⟩;have hE23:=hE2.trans hE3) | (at_builtin;refine O0 rfl _ _ rfl w1 _ _ _ _ (hO.ext hE23) (hF.trans hE23) hln rfl rfl ?_;intro v1 w4 hO1 hE4));go_roundw;(case rel=>exact⟨k+1,by omega,by go_num,by rw[Hn.out,Hp.out];exact hO1,hE4⟩);case measure=>(simp[intOf];omega)
        · have hgI:¬(1:Int)<(M:Int):=(by omega);have Hp:Hid (pcB X k=j0 (x:Int)):=Lib.hid (by unfold pcB;rw[←hx,←hM,if_neg hgt]);clear hx hM hsame hgt;go_wp2_with (first | (go_at_call 98;with_reducible refine (cI _).mono ?_;rintro e2 w2 ⟨rfl,hE2⟩;have hE2b:=hEr.trans hE2) | (go_at_call 233;refine (cM _ hE2b).mono ?_;rintro e' w' ⟨rfl,rfl⟩) | (at_builtin;refine O0 rfl _ _ rfl w1 _ _ _ _ (hO.ext hE2) (hF.trans hE2) hln rfl rfl ?_;intro v1 w4 hO1 hE4));go_roundw;(case rel=>exact⟨k+1,by omega,by go_num,by rw[Hn.out,Hp.out];exact hO1,hE4⟩);case measure=>(simp[intOf];omega)
  · have hkl:k=X.length:=(by omega);have hS:=(show J0 w1 wr _ (fqL X X.length) by rw[←hkl];exact hO).strs;have hfl:=b44 X X.length;have hc:=cg9 _ (fqL X X.length) sp1 wr hS (by decide) (fun i hi=>by
     have:=Hsz.out (m6 (fqL X X.length) i) (by
      have:m6 (fqL X X.length) i=(fqL X X.length)[i]:=(by simp[m6,List.getD,hi]);rw[this];exact List.getElem_mem hi)
     omega) (by omega)
    clear hkl;go_wp2_with (refine hc.mono ?_;rintro e w2 ⟨rfl,rfl⟩);go_ret;exact⟨d9 Hs.out.symm,hE0.trans hEr⟩
end Go.Zz
namespace Go.Zz
open Go.RowKit Go.Proofs
set_option maxHeartbeats 1000000
set_option maxRecDepth 4000
theorem do5(L:List ByteArray)(p:ByteArray){i:Nat}(hi:i<L.length):m6 (L++[p]) i=m6 L i:=by
 simp[m6,List.getD,List.getElem?_append_left hi]
theorem dg4(L:List ByteArray)(p:ByteArray):m6 (L++[p]) L.length=p:=by simp[m6,List.getD]
theorem df6(s:ByteArray)(L:List ByteArray)(p:ByteArray)(h:0<L.length):jn s (m6 (L++[p])) (L++[p]).length=(jn s (m6 L) L.length++s)++p:=by
 rw[List.length_append,List.length_singleton,T9 _ _ h,dg4,bb1 s _ (m6 L) L.length fun i hi=>do5 L p hi]
theorem df7(s:ByteArray)(L:List ByteArray)(p:ByteArray)(h:L.length=0):jn s (m6 (L++[p])) (L++[p]).length=jn s (m6 L) L.length++p:=by
 have hL:L=[]:=List.eq_nil_of_length_eq_zero h;subst hL;rfl
theorem cb6{X:List Nat}:∀k,0<k→0<(fqL X k).length
 | 0,h=>by omega
 | k+1,_=>by
  unfold fqL
  split
  · next h=>exact cb6 k h.1
  · simp
theorem dp5{X:List Nat}(h24:∀x∈X,x<24){i:Nat}(hi:i<X.length):1≤(pcB X i).size:=by
 have h1:=h24 _ (o6 hi);have h2:=W7 (n:=(d5 X i:Int)) (by omega);unfold pcB;split
 · rw[ByteArray.size_append,ByteArray.size_append];omega
 · exact h2
theorem cs1{X:List Nat}(h24:∀x∈X,x<24):∀k,k≤X.length→∀b∈fqL X k,1≤b.size
 | 0,_,b,hb=>by cases hb
 | k+1,hk,b,hb=>by
  have ih:=cs1 h24 k (by omega)
  unfold fqL at hb
  split at hb
  · exact ih b hb
  · rw[List.mem_append,List.mem_singleton] at hb
    rcases hb with hb | rfl
    · exact ih b hb
    · exact dp5 h24 (by omega)
theorem N4{L:List ByteArray}{i:Nat}(h:i<L.length):m6 L i∈L:=by
 have:m6 L i=L[i]:=by simp[m6,List.getD,h]
 rw[this];exact List.getElem_mem h
theorem bp6(v u:Value)(l xs:List Int)(w:World)(h:c8 w v l)(hu:c8 w u xs) :
 Calls Tryz.prog 65 #[.agg #[v],u] w fun e w'=>e=.returned (.string (fqF l xs))∧Ext w w':=by
 obtain⟨wb,Hwb,hE0,hb,hg,hE,Hsz⟩:=j60 28 h;clear h;have HU:=Lib.hid (fun W (hW:Ext wb W)=>hu.ext (hE0.trans hW));cases hs:L2 l xs
 · have Hs:=Lib.hid (bs3 hs);have cS:=fun W (hW:Ext wb W)=>be8 v u l xs W (hg _ hW) (HU.out _ hW) hs;have hb0:=hb wb hE;obtain⟨ao,c,adr,rfl,hlen,-,-⟩:=hu.op;clear hs hu;go_enter Tryz.func65,Tryz.ntmps65;go_wp2_with fail;rw[←Hwb.out];go_loopw [5,6] (fun sv iv wr=>sv=.string ⟨#[]⟩∧iv=.int .i64 0∧Ext wb wr) (fun _ _ _=>0);(case atStart=>exact⟨rfl,rfl,hE⟩);case round =>
    obtain⟨rfl,rfl,hEr⟩:=hrel;have hemp:(⟨#[]⟩:ByteArray).toList.isEmpty=true:=(by rw[ByteArray.toList_eq];rfl);have hbr:=hb _ hEr;by_cases hq:(0:Int)<(xs.length:Int)
    ·
       have hEs:=hEr
       clear hEr
       go_wp2_with (go_at_call 133;refine (cS _ hEs).mono ?_;rintro e' w' ⟨rfl,hE'⟩;replace hEs:=hEs.trans hE';clear hE')
       go_ret
       exact⟨d9 Hs.out.symm,hE0.trans hEs⟩
    ·
       have hEs:=hEr
       clear hEr
       go_wp2_with (go_at_call 133;refine (cS _ hEs).mono ?_;rintro e' w' ⟨rfl,hE'⟩;replace hEs:=hEs.trans hE';clear hE')
       go_ret
       exact⟨d9 Hs.out.symm,hE0.trans hEs⟩
 have cS:=fun W (hW:Ext wb W)=>be8 v u l xs W (hg _ hW) (HU.out _ hW) hs;obtain⟨X,rfl,-,hX12,hgr,hX⟩:=bc4 hs;have hu2:=hu.ext hE0;obtain⟨ao,c,adr,rfl,hadr,hcell⟩:=hu2.nats;have hix:=j6 (c:=c) elI szI hadr;have HcX:=Lib.hid hcell;have HX:=Lib.hid hX;have Hhs:=Lib.hid hs;have Hsz:=Lib.hid (b45 (X:=X) (by omega) hX);have Hso:=Lib.hid (cs1 (X:=X) hX);clear hadr hcell hs hgr hu hX;go_enter Tryz.func65,Tryz.ntmps65;go_wp2_with fail;rw[←Hwb.out];go_loopw [5,6] (fun sv iv wr=>∃(k:Nat) (st:ByteArray),k≤X.length∧iv=.int .i64 k∧sv=.string st∧Hid (st=jn sp1 (m6 (fqL X k)) (fqL X k).length)∧Ext wb wr) (fun _ iv _=>X.length - (intOf iv).toNat);case atStart=>exact⟨0,_,by omega,rfl,rfl,Lib.hid rfl,hE⟩
 case round =>
  clear hE;obtain⟨k,st,hk,rfl,rfl,Hst,hEr⟩:=hrel;have hbr:=hb _ hEr;have hfl:=b44 X k;have hstS:st.size≤60012:=by
   rw[Hst.out];have:=c32 sp1 (m6 (fqL X k)) (by decide) (fqL X k).length (fun i hi=>by have:=Hsz.out k hk _ (N4 hi);omega);omega
  by_cases hlt:k<X.length
  · have hx24:=HX.out _ (o6 hlt);have hck:=HcX.out k wr hlt hEr;obtain⟨x,hx⟩:∃x,x=d5 X k:=⟨_,rfl⟩;have Hx:=Lib.hid hx;rw[←hx] at hck hx24;have cI:=fun W=>o5 (x:Int) (by omega) W;have cM:=fun W (hW:Ext wb W)=>bp8 (.slice ao X.length c) (d6 X) (x:Int) W (HU.out _ hW);have hmi:=cu6 (X:=X) (by omega) (x:Int);obtain⟨M,hM⟩:∃M,M=bm5 (d6 X) (x:Int):=⟨_,rfl⟩;rw[←hM] at cM hmi;have cJ:=fun W=>o5 (M:Int) hmi W;have hs1:=j5 (n:=(x:Int)) (by omega);have hs2:=j5 hmi;by_cases hk0:0<k
    · have hkI:(0:Int)<(k:Int):=(by omega);have hL1:=cb6 (X:=X) k hk0;have hemp:st.toList.isEmpty=false:=by
       rw[Hst.out];exact T2 (Y7 _ _ _ hL1 fun i hi=>Hso.out k hk _ (N4 hi))
      have ix1:∀W,(Instr.indexAt 26 (.slice ao X.length c) (.int .i64 ((k:Int) - 1))).run Tryz.prog W=.ok (.pointer (some (adr (k - 1)))) W:=fun W=>(by rw[show ((k:Int) - 1)=((k - 1:Nat):Int) by omega];exact hix _ W (by omega));by_cases hsame:0<k∧d5 X (k - 1)=d5 X k
      · have Hn:=Lib.hid (cs0 hsame.1 hsame.2);have Hq:=Lib.hid hsame.2;clear hsame hx hM;go_wp2_with (go_at_call 133;refine (cS _ hEr).mono ?_;rintro e2 w2 ⟨rfl,hE2⟩);have hE2b:=hEr.trans hE2;have hE:=Ext.refl w2;have hcq:=fun U=>HcX.out k _ hlt (hE2b.trans (b9 w2 U));have hcq1:=fun U=>HcX.out (k - 1) _ (by omega) (hE2b.trans (b9 w2 U));rw[Hq.out] at hcq1;(refine d0 (w2) (by kernel_rfl) (by kernel_rfl) hE ?_);(repeat (go_big_quiet_step (first | (fail "no call"))));(refine wpQuiet_nil ?_);(intro W hE');(replace hE:=l7 hE');(clear hE');go_wp2_with fail;go_roundw;(case rel=>exact⟨k+1,st,by omega,by go_num,rfl,by rw[Hn.out];exact Hst,hE2b.trans hE⟩);case measure=>(simp[intOf];omega)
      · have hne:((x:Int) == ((d5 X (k - 1):Nat):Int))=false:=by
         rw[beq_eq_false_iff_ne,hx];intro e;exact hsame ⟨hk0,by omega⟩
        have Hn:=Lib.hid (cb5 hsame)
        by_cases hgt:1<M
        · have hgI:(1:Int)<(M:Int):=by omega
          have Hp:Hid (pcB X k=(j0 (x:Int)++(⟨#[94]⟩:ByteArray))++j0 (M:Int)):=Lib.hid (by unfold pcB;rw[←hx,←hM,if_pos hgt])
          have Hst2:Hid (((((st++(⟨#[32]⟩:ByteArray))++j0 (x:Int))++(⟨#[94]⟩:ByteArray))++j0 (M:Int))=jn sp1 (m6 (fqL X (k+1))) (fqL X (k+1)).length):=Lib.hid (by
           rw[Hn.out,Hp.out,df6 _ _ _ hL1,←Hst.out];simp only[ByteArray.append_assoc];rfl)
          clear hx hM hsame hgt Hp Hn
          go_wp2_with (go_at_call 133;refine (cS _ hEr).mono ?_;rintro e2 w2 ⟨rfl,hE2⟩)
          have hE2b:=hEr.trans hE2
          have hE:=Ext.refl w2
          have hcq:=fun U=>HcX.out k _ hlt (hE2b.trans (b9 w2 U))
          have hcq1:=fun U=>HcX.out (k - 1) _ (by omega) (hE2b.trans (b9 w2 U))
          rw[←Hx.out] at hcq
          (refine d0 (w2) (by kernel_rfl) (by kernel_rfl) hE ?_);(repeat (go_big_quiet_step (first | (fail "no call"))));(refine wpQuiet_nil ?_);(intro W hE');(replace hE:=l7 hE');(clear hE')
          have hEw:=hE2b.trans hE
          have hcW:=HcX.out k _ hlt hEw
          rw[←Hx.out] at hcW
          go_wp2_with (first | (go_at_call 45;with_reducible refine (cI _).mono ?_;rintro e3 w3 ⟨rfl,hE3⟩;have hE3b:=hEw.trans hE3;have hcV:=HcX.out k _ hlt hE3b;rw[←Hx.out] at hcV) | (go_at_call 184;refine (cM _ hE3b).mono ?_;rintro e' w' ⟨rfl,rfl⟩) | (go_at_call 45;with_reducible refine (cJ _).mono ?_;rintro e4 w4 ⟨rfl,hE4⟩;have hE4b:=hE3b.trans hE4))
          go_roundw
          case rel=>exact⟨k+1,_,by omega,by go_num,rfl,Hst2,hE4b⟩
          case measure=>(simp[intOf];omega)
        · have hgI:¬(1:Int)<(M:Int):=by omega
          have Hp:Hid (pcB X k=j0 (x:Int)):=Lib.hid (by unfold pcB;rw[←hx,←hM,if_neg hgt])
          have Hst2:Hid (((st++(⟨#[32]⟩:ByteArray))++j0 (x:Int))=jn sp1 (m6 (fqL X (k+1))) (fqL X (k+1)).length):=Lib.hid (by
           rw[Hn.out,Hp.out,df6 _ _ _ hL1,←Hst.out];rfl)
          clear hx hM hsame hgt Hp Hn
          go_wp2_with (go_at_call 133;refine (cS _ hEr).mono ?_;rintro e2 w2 ⟨rfl,hE2⟩)
          have hE2b:=hEr.trans hE2
          have hE:=Ext.refl w2
          have hcq:=fun U=>HcX.out k _ hlt (hE2b.trans (b9 w2 U))
          have hcq1:=fun U=>HcX.out (k - 1) _ (by omega) (hE2b.trans (b9 w2 U))
          rw[←Hx.out] at hcq
          (refine d0 (w2) (by kernel_rfl) (by kernel_rfl) hE ?_);(repeat (go_big_quiet_step (first | (fail "no call"))));(refine wpQuiet_nil ?_);(intro W hE');(replace hE:=l7 hE');(clear hE')
          have hEw:=hE2b.trans hE
          have hcW:=HcX.out k _ hlt hEw
          rw[←Hx.out] at hcW
          go_wp2_with (first | (go_at_call 45;with_reducible refine (cI _).mono ?_;rintro e3 w3 ⟨rfl,hE3⟩;have hE3b:=hEw.trans hE3;have hcV:=HcX.out k _ hlt hE3b;rw[←Hx.out] at hcV) | (go_at_call 184;refine (cM _ hE3b).mono ?_;rintro e' w' ⟨rfl,rfl⟩) | (go_at_call 45;with_reducible refine (cJ _).mono ?_;rintro e4 w4 ⟨rfl,hE4⟩;have hE4b:=hE3b.trans hE4))
          go_roundw
          case rel=>exact⟨k+1,_,by omega,by go_num,rfl,Hst2,hE3b⟩
          case measure=>(simp[intOf];omega)
    · have hkI:¬(0:Int)<(k:Int):=(by omega);have hkz:k=0:=(by omega);have hL0:(fqL X k).length=0:=(by rw[hkz];rfl);have hemp:st.toList.isEmpty=true:=by
       rw[Hst.out,hkz,ByteArray.toList_eq];rfl
      have hsame:¬(0<k∧d5 X (k - 1)=d5 X k):=fun e=>hk0 e.1;clear hkz;have Hn:=Lib.hid (cb5 hsame);by_cases hgt:1<M
      · have hgI:(1:Int)<(M:Int):=(by omega);have Hp:Hid (pcB X k=(j0 (x:Int)++(⟨#[94]⟩:ByteArray))++j0 (M:Int)):=Lib.hid (by unfold pcB;rw[←hx,←hM,if_pos hgt]);have Hst2:Hid ((((st++j0 (x:Int))++(⟨#[94]⟩:ByteArray))++j0 (M:Int))=jn sp1 (m6 (fqL X (k+1))) (fqL X (k+1)).length):=Lib.hid (by
         rw[Hn.out,Hp.out,df7 _ _ _ hL0,←Hst.out];simp only[ByteArray.append_assoc])
        clear hx hM hsame hgt Hp Hn;go_wp2_with (go_at_call 133;refine (cS _ hEr).mono ?_;rintro e2 w2 ⟨rfl,hE2⟩);have hE2b:=hEr.trans hE2;have hE:=Ext.refl w2;have hcq:=fun U=>HcX.out k _ hlt (hE2b.trans (b9 w2 U));rw[←Hx.out] at hcq;(refine d0 (w2) (by kernel_rfl) (by kernel_rfl) hE ?_);(repeat (go_big_quiet_step (first | (fail "no call"))));(refine wpQuiet_nil ?_);(intro W hE');(replace hE:=l7 hE');(clear hE');have hEw:=hE2b.trans hE;have hcW:=HcX.out k _ hlt hEw;rw[←Hx.out] at hcW;go_wp2_with (first | (go_at_call 45;with_reducible refine (cI _).mono ?_;rintro e3 w3 ⟨rfl,hE3⟩;have hE3b:=hEw.trans hE3;have hcV:=HcX.out k _ hlt hE3b;rw[←Hx.out] at hcV) | (go_at_call 184;refine (cM _ hE3b).mono ?_;rintro e' w' ⟨rfl,rfl⟩) | (go_at_call 45;with_reducible refine (cJ _).mono ?_;rintro e4 w4 ⟨rfl,hE4⟩;have hE4b:=hE3b.trans hE4));go_roundw;(case rel=>exact⟨k+1,_,by omega,by go_num,rfl,Hst2,hE4b⟩);case measure=>(simp[intOf];omega)
      · have hgI:¬(1:Int)<(M:Int):=(by omega);have Hp:Hid (pcB X k=j0 (x:Int)):=Lib.hid (by unfold pcB;rw[←hx,←hM,if_neg hgt]);have Hst2:Hid ((st++j0 (x:Int))=jn sp1 (m6 (fqL X (k+1))) (fqL X (k+1)).length):=Lib.hid (by
         rw[Hn.out,Hp.out,df7 _ _ _ hL0,←Hst.out])
        clear hx hM hsame hgt Hp Hn;go_wp2_with (go_at_call 133;refine (cS _ hEr).mono ?_;rintro e2 w2 ⟨rfl,hE2⟩);have hE2b:=hEr.trans hE2;have hE:=Ext.refl w2;have hcq:=fun U=>HcX.out k _ hlt (hE2b.trans (b9 w2 U));rw[←Hx.out] at hcq;(refine d0 (w2) (by kernel_rfl) (by kernel_rfl) hE ?_);(repeat (go_big_quiet_step (first | (fail "no call"))));(refine wpQuiet_nil ?_);(intro W hE');(replace hE:=l7 hE');(clear hE');have hEw:=hE2b.trans hE;have hcW:=HcX.out k _ hlt hEw;rw[←Hx.out] at hcW;go_wp2_with (first | (go_at_call 45;with_reducible refine (cI _).mono ?_;rintro e3 w3 ⟨rfl,hE3⟩;have hE3b:=hEw.trans hE3;have hcV:=HcX.out k _ hlt hE3b;rw[←Hx.out] at hcV) | (go_at_call 184;refine (cM _ hE3b).mono ?_;rintro e' w' ⟨rfl,rfl⟩) | (go_at_call 45;with_reducible refine (cJ _).mono ?_;rintro e4 w4 ⟨rfl,hE4⟩;have hE4b:=hE3b.trans hE4));go_roundw;(case rel=>exact⟨k+1,_,by omega,by go_num,rfl,Hst2,hE3b⟩);case measure=>(simp[intOf];omega)
  · have hkl:k=X.length:=(by omega);have hkI:¬(k:Int)<(X.length:Int):=(by omega);by_cases h0:X.length=0
    · have hemp:st.toList.isEmpty=true:=by
       rw[Hst.out,hkl,h0,ByteArray.toList_eq];rfl
      have Hv:Hid (fqF l (d6 X)=⟨#[110,111,110,101]⟩):=Lib.hid (ba8 Hhs.out (by rw[j8];exact h0))
      clear hkl h0 hfl
      go_wp2_with (go_at_call 133;refine (cS _ hEr).mono ?_;rintro e2 w2 ⟨rfl,hE2⟩)
      go_ret
      exact⟨d9 Hv.out.symm,hE0.trans (hEr.trans hE2)⟩
    · have hemp:st.toList.isEmpty=false:=by
       rw[Hst.out];exact T2 (Y7 _ _ _ (cb6 (X:=X) k (by omega)) fun i hi=>Hso.out k hk _ (N4 hi))
      have Hv:Hid (fqF l (d6 X)=st):=Lib.hid (by rw[bi1 Hhs.out h0,Hst.out,hkl])
      clear hkl h0 hfl
      go_wp2_with fail
      go_ret
      exact⟨d9 Hv.out.symm,hE0.trans hEr⟩
end Go.Zz
namespace Go.Zz
set_option linter.unusedVariables false
def nxS(l:List Int)(S x:Nat):Nat:=(S ||| j2 l S x) ||| 2 ^ x
theorem c78{l:List Int}(hg:c9 l=true){S x:Nat}(hS:S<2 ^ ord l)(hx:x<ord l):nxS l S x<2 ^ ord l :=
 Nat.or_lt_two_pow (Nat.or_lt_two_pow hS (U3 (m0 hg) S x)) (Nat.pow_lt_pow_right (by omega) hx)
theorem bm8{l:List Int}(hg:c9 l=true){S x:Nat}(hS:S<2 ^ ord l)(h0:S.testBit 0=false)(hx:x<ord l):cnt S<cnt (nxS l S x):=by
 have hob:=l8 hg;have hS24:S<2 ^ 24:=Nat.lt_of_lt_of_le hS (Nat.pow_le_pow_right (by omega) hob.2);have hT:S ||| 2 ^ 0<2 ^ ord l:=Nat.or_lt_two_pow hS (Nat.pow_lt_pow_right (by omega) (by omega))
 have h1:=b16 hg hT x;rw[bl3 hS24 (by omega) h0] at h1;have hsub:Sub (j2 l (S ||| 2 ^ 0) x) (nxS l S x):=fun i hi=>by
  obtain⟨y,hy,hb,he⟩:=D0.1 hi
  unfold nxS
  rw[Nat.testBit_or,Nat.testBit_or]
  rw[Nat.testBit_or,Nat.testBit_two_pow] at hb
  by_cases hy0:y=0
  · subst hy0
    rw[C8,C5 l (m0 hg) x hx] at he
    subst he
    simp
  · have hSy:S.testBit y=true:=by simpa[show ¬0=y by omega] using hb
    have:(j2 l S x).testBit i=true:=D0.2 ⟨y,hy,hSy,he⟩
    rw[this];simp
 have:=c19 hsub;omega
def zfS(l:List Int):Nat→List Nat→Nat→Nat→List Nat
 | 0,X,_,_=>X
 | f+1,X,S,m=>(List.range (ord l)).foldl (fun (b:List Nat) (x:Nat)=>if x<m then b else if (nxS l S x).testBit 0 then b else if b.length<(zfS l f (X++[x]) (nxS l S x) x).length then zfS l f (X++[x]) (nxS l S x) x else b) X
def zfK(l:List Int)(f:Nat)(X:List Nat)(S m k:Nat):List Nat:=(List.range k).foldl (fun (b:List Nat) (x:Nat)=>if x<m then b else if (nxS l S x).testBit 0 then b else if b.length<(zfS l f (X++[x]) (nxS l S x) x).length then zfS l f (X++[x]) (nxS l S x) x else b) X
theorem dy9(l:List Int)(f:Nat)(X:List Nat)(S m:Nat):zfS l (f+1) X S m=zfK l f X S m (ord l):=rfl
theorem dk5(l:List Int)(f:Nat)(X:List Nat)(S m:Nat):zfK l f X S m m=X:=by
 unfold zfK;have:∀k,k≤m→(List.range k).foldl (fun (b:List Nat) (x:Nat)=>if x<m then b else if (nxS l S x).testBit 0 then b else if b.length<(zfS l f (X++[x]) (nxS l S x) x).length then zfS l f (X++[x]) (nxS l S x) x else b) X=X:=by
  intro k;induction k with
  | zero=>intro _;rfl
  | succ k ih =>
   intro hk;rw[List.range_succ,List.foldl_append,ih (by omega)];simp only[List.foldl_cons,List.foldl_nil];rw[if_pos (by omega)]
 exact this m (Nat.le_refl _)
theorem j46{l:List Int}{f:Nat}{X:List Nat}{S m k:Nat}(h:(nxS l S k).testBit 0=true):zfK l f X S m (k+1)=zfK l f X S m k:=by
 unfold zfK;rw[List.range_succ,List.foldl_append];simp only[List.foldl_cons,List.foldl_nil];split
 · rfl
 · first | rfl | rw[if_pos h]
theorem dr6{l:List Int}{f:Nat}{X:List Nat}{S m k:Nat}(hm:m≤k)(h:(nxS l S k).testBit 0=false)(hq:(zfK l f X S m k).length<(zfS l f (X++[k]) (nxS l S k) k).length):zfK l f X S m (k+1)=zfS l f (X++[k]) (nxS l S k) k:=by
 unfold zfK at hq ⊢;rw[List.range_succ,List.foldl_append];simp only[List.foldl_cons,List.foldl_nil];rw[if_neg (by omega),if_neg (by rw[h];simp),if_pos hq]
theorem dr5{l:List Int}{f:Nat}{X:List Nat}{S m k:Nat}(hm:m≤k)(h:(nxS l S k).testBit 0=false)(hq:¬(zfK l f X S m k).length<(zfS l f (X++[k]) (nxS l S k) k).length):zfK l f X S m (k+1)=zfK l f X S m k:=by
 unfold zfK at hq ⊢;rw[List.range_succ,List.foldl_append];simp only[List.foldl_cons,List.foldl_nil];rw[if_neg (by omega),if_neg (by rw[h];simp),if_neg hq]
def zfI(l:List Int):Nat→List Nat→Nat→Nat→List Nat→List Nat
 | 0,X,_,_,b=>if b.length<X.length then X else b
 | f+1,X,S,m,b=>(List.range (ord l)).foldl (fun (b:List Nat) (x:Nat)=>if x<m then b else if (nxS l S x).testBit 0 then b else zfI l f (X++[x]) (nxS l S x) x b) (if b.length<X.length then X else b)
def G2(l:List Int)(f:Nat)(X:List Nat)(S m:Nat)(b:List Nat)(k:Nat):List Nat:=(List.range k).foldl (fun (b:List Nat) (x:Nat)=>if x<m then b else if (nxS l S x).testBit 0 then b else zfI l f (X++[x]) (nxS l S x) x b) (if b.length<X.length then X else b)
theorem dk4(l:List Int)(f:Nat)(X:List Nat)(S m:Nat)(b:List Nat):zfI l (f+1) X S m b=G2 l f X S m b (ord l):=rfl
theorem d36(l:List Int)(f:Nat)(X:List Nat)(S m:Nat)(b:List Nat):G2 l f X S m b m=if b.length<X.length then X else b:=by
 unfold G2;have:∀k,k≤m→∀b0:List Nat,(List.range k).foldl (fun (b:List Nat) (x:Nat)=>if x<m then b else if (nxS l S x).testBit 0 then b else zfI l f (X++[x]) (nxS l S x) x b) b0=b0:=by
  intro k;induction k with
  | zero=>intro _ _;rfl
  | succ k ih =>
   intro hk b0;rw[List.range_succ,List.foldl_append,ih (by omega)];simp only[List.foldl_cons,List.foldl_nil];rw[if_pos (by omega)]
 exact this m (Nat.le_refl _) _
theorem d01{l:List Int}{f:Nat}{X:List Nat}{S m k:Nat}{b:List Nat}(h:(nxS l S k).testBit 0=true):G2 l f X S m b (k+1)=G2 l f X S m b k:=by
 unfold G2;rw[List.range_succ,List.foldl_append];simp only[List.foldl_cons,List.foldl_nil];split
 · rfl
 · first | rfl | rw[if_pos h]
theorem cj5{l:List Int}{f:Nat}{X:List Nat}{S m k:Nat}{b:List Nat}(hm:m≤k)(h:(nxS l S k).testBit 0=false):G2 l f X S m b (k+1)=zfI l f (X++[k]) (nxS l S k) k (G2 l f X S m b k):=by
 unfold G2;rw[List.range_succ,List.foldl_append];simp only[List.foldl_cons,List.foldl_nil];rw[if_neg (by omega),if_neg (by rw[h];simp)]
theorem dk2(l:List Int):∀(f:Nat) (X:List Nat) (S m:Nat) (b:List Nat),zfI l f X S m b=if b.length<(zfS l f X S m).length then zfS l f X S m else b:=by
 intro f;induction f with
 | zero=>intro X S m b;rfl
 | succ f ih =>
  intro X S m b;unfold zfI zfS
  have key:∀(L:List Nat) (r:List Nat),L.foldl (fun (b:List Nat) (x:Nat)=>if x<m then b else if (nxS l S x).testBit 0 then b else zfI l f (X++[x]) (nxS l S x) x b) (if b.length<r.length then r else b) =
   if b.length<(L.foldl (fun (b:List Nat) (x:Nat)=>if x<m then b else if (nxS l S x).testBit 0 then b else if b.length<(zfS l f (X++[x]) (nxS l S x) x).length then zfS l f (X++[x]) (nxS l S x) x else b) r).length then L.foldl (fun (b:List Nat) (x:Nat)=>if x<m then b else if (nxS l S x).testBit 0 then b else if b.length<(zfS l f (X++[x]) (nxS l S x) x).length then zfS l f (X++[x]) (nxS l S x) x else b) r else b:=by
   intro L;induction L with
   | nil=>intro r;rfl
   | cons x L ihL =>
    intro r;rw[List.foldl_cons,List.foldl_cons];by_cases h1:x<m
    · rw[if_pos h1,if_pos h1];exact ihL r
    · rw[if_neg h1,if_neg h1];by_cases h2:(nxS l S x).testBit 0=true
      · rw[if_pos h2,if_pos h2];exact ihL r
      · rw[if_neg h2,if_neg h2,ih]
        have e:(if (if b.length<r.length then r else b).length<(zfS l f (X++[x]) (nxS l S x) x).length then zfS l f (X++[x]) (nxS l S x) x else if b.length<r.length then r else b) =
         if b.length<(if r.length<(zfS l f (X++[x]) (nxS l S x) x).length then zfS l f (X++[x]) (nxS l S x) x else r).length then (if r.length<(zfS l f (X++[x]) (nxS l S x) x).length then zfS l f (X++[x]) (nxS l S x) x else r) else b:=by
         by_cases p1:b.length<r.length<;>by_cases p2:r.length<(zfS l f (X++[x]) (nxS l S x) x).length<;>by_cases p3:b.length<(zfS l f (X++[x]) (nxS l S x) x).length<;>simp[p1,p2,p3]<;>omega
        rw[e];exact ihL _
  exact key (List.range (ord l)) X
theorem dk6{l:List Int}(hg:c9 l=true):∀(f:Nat) (X:List Nat) (S m:Nat),S<2 ^ ord l→S.testBit 0=false→(∀x∈X,x<ord l)→X.length≤cnt S→(∀x∈zfS l f X S m,x<ord l)∧(zfS l f X S m).length≤24:=by
 intro f;induction f with
 | zero=>intro X S m hS h0 hX hl;exact⟨hX,Nat.le_trans hl (p7 S)⟩
 | succ f ih =>
  intro X S m hS h0 hX hl;unfold zfS;have key:∀(L:List Nat),(∀x∈L,x<ord l)→∀r:List Nat,((∀x∈r,x<ord l)∧r.length≤24)→((∀x∈L.foldl (fun (b:List Nat) (x:Nat)=>if x<m then b else if (nxS l S x).testBit 0 then b else if b.length<(zfS l f (X++[x]) (nxS l S x) x).length then zfS l f (X++[x]) (nxS l S x) x else b) r,x<ord l)∧(L.foldl (fun (b:List Nat) (x:Nat)=>if x<m then b else if (nxS l S x).testBit 0 then b else if b.length<(zfS l f (X++[x]) (nxS l S x) x).length then zfS l f (X++[x]) (nxS l S x) x else b) r).length≤24):=by
   intro L;induction L with
   | nil=>intro _ r hr;exact hr
   | cons x L ihL =>
    intro hL r hr;rw[List.foldl_cons];refine ihL (fun y hy=>hL y (by simp[hy])) _ ?_;split
    · exact hr
    · split
      · exact hr
      · next h2 =>
         split
         · have hx:=hL x (by simp);refine ih (X++[x]) (nxS l S x) x (c78 hg hS hx) (by simpa using h2) ?_ ?_
           · intro y hy;rw[List.mem_append,List.mem_singleton] at hy;rcases hy with hy | rfl
             · exact hX y hy
             · exact hx
           · have:=bm8 hg hS h0 hx;simp;omega
         · exact hr
  exact key (List.range (ord l)) (fun x hx=>List.mem_range.1 hx) X ⟨hX,Nat.le_trans hl (p7 S)⟩
def lzB(l:List Int):Bool:=c9 l&&decide (ord l≤9)
def lzL(l:List Int):List Nat:=if lzB l then zfS l (ord l+1) [] 0 1 else []
theorem cm1{l:List Int}(h:lzB l=false):lzL l=[]:=by unfold lzL;rw[h];rfl
theorem dg1{l:List Int}(h:lzB l=true):lzL l=zfS l (ord l+1) [] 0 1:=by unfold lzL;rw[h];rfl
end Go.Zz
namespace Go.Zz
open Go.RowKit Go.Proofs
set_option maxHeartbeats 2000000
set_option maxRecDepth 8000
def LiP(w0:World)(Y:List Nat)(s:Value)(wx:World):Prop:=∃ao c,s=.slice ao Y.length c∧c8 wx (.slice ao Y.length c) (d6 Y)∧Ext w0 wx
theorem dx4(v:Value)(l:List Int)(Hgr:Hid (c9 l=true)) :
 ∀(f:Nat) (X:List Nat) (S m:Nat) (vX:Value) (w:World),c8 w v l→c8 w vX (d6 X)→S<2 ^ ord l→S.testBit 0=false→m≤ord l→ord l<cnt S+f→X.length≤cnt S→(∀x∈X,x<ord l) →
 Calls Tryz.prog 180 #[.agg #[v],vX,.int .i64 S,.int .i64 m] w fun e w'=>∃ao c,e=.returned (.slice ao (zfS l f X S m).length c)∧c8 w' (.slice ao (zfS l f X S m).length c) (d6 (zfS l f X S m))∧Ext w w':=by
 intro f;induction f with
 | zero=>intro X S m vX w h hX hS h0 hm hf;have:=bh6 Hgr.out hS;omega
 | succ f ih =>
  intro X S m vX w h hX hS h0 hm hf hXl hXo;have hob:=l8 Hgr.out;have hp24:=E1 Hgr.out;have hS24:S<2 ^ 24:=Nat.lt_of_lt_of_le hS hp24;have hcS:=p7 S;obtain⟨aoX,cX,-,rfl,-,-,-⟩:=hX.op;rw[j8] at hX ⊢;obtain⟨wb,Hwb,hE0,hb,hg,hE,Hsz⟩:=j60 28 h;clear h;have HX:=Lib.hid (fun W (hW:Ext wb W)=>hX.ext (hE0.trans hW));have Hih:=Lib.hid ih;clear ih hX;have He:=Lib.hid (dy9 l f X S m);have Hst:=Lib.hid (dk5 l f X S m);go_enter Tryz.func180,Tryz.ntmps180;go_wp2_with fail;rw[←Hwb.out];go_loopw [9,10] (fun bv xv wr=>∃(k:Nat) (ao:Option Addr) (c:Nat),m≤k∧k≤ord l∧xv=.int .i64 k∧bv=.slice ao (zfK l f X S m k).length c∧c8 wr (.slice ao (zfK l f X S m k).length c) (d6 (zfK l f X S m k))∧Ext wb wr) (fun _ xv _=>ord l - (intOf xv).toNat);case atStart=>exact⟨m,aoX,cX,Nat.le_refl _,hm,rfl,by rw[Hst.out],by rw[Hst.out];exact HX.out _ hE,hE⟩
  case round =>
   clear hE;obtain⟨k,aoB,cB,hk1,hk2,rfl,rfl,hIB,hE⟩:=hrel;have cO:=m4 v l wr (hg _ hE) Hgr;have HIB:=Lib.hid hIB;have hlB:(zfK l f X S m k).length≤17592186044416:=(by obtain⟨_,_,_,_,h',_⟩:=hIB;simpa[j8] using h');have Hno:=Lib.hid (fun h=>j46 (l:=l) (f:=f) (X:=X) (S:=S) (m:=m) (k:=k) h);have Hmo:=Lib.hid (fun h=>dr6 (l:=l) (f:=f) (X:=X) (S:=S) (m:=m) (k:=k) hk1 h);have Hle:=Lib.hid (fun h=>dr5 (l:=l) (f:=f) (X:=X) (S:=S) (m:=m) (k:=k) hk1 h);clear hIB;by_cases hlt:k<ord l
   · have hk24:k<24:=(by omega);have hN:=c78 Hgr.out hS hlt;have hNc:=bm8 Hgr.out hS h0 hlt;have hN24:nxS l S k<2 ^ 24:=Nat.lt_of_lt_of_le hN hp24;have hsh:=M5 Hgr.out S k;have q1:=p0 (n:=k) (by omega);have q2:ior (S:Int) (j2 l S k:Int)=((S ||| j2 l S k:Nat):Int):=Q0 (by omega) (by omega);have q3:ior ((S ||| j2 l S k:Nat):Int) ((pw k:Nat):Int)=((nxS l S k:Nat):Int):=F8 (Nat.or_lt_two_pow hS24 hsh) hk24;obtain⟨N,hNd⟩:∃N,N=nxS l S k:=⟨_,rfl⟩;rw[←hNd] at hN hNc hN24 q3 Hno Hmo Hle;have q4:=b10 (a:=N) (by omega);have cS:=fun W (hW:Ext wb W)=>I8 v l S k W (hg _ hW) Hgr hS24 hk24;have HNd:=Lib.hid hNd;clear hNd;go_wp2_with (go_at_call 43;refine cO.mono ?_;rintro e1 w1 ⟨rfl,hE1⟩);have hE01:=hE.trans hE1;have hbx:=fun U=>hb _ (hE01.trans (b9 w1 U));have hEq:=hE01;clear hE hE01;have hE:=Ext.refl w1;(refine d0 (w1) (by kernel_rfl) (by kernel_rfl) hE ?_);(repeat (go_big_quiet_step (first | (go_at_call 166;exact Calls.lat (cS _ (hEq.trans (b9 w1 _)))))));(refine wpQuiet_nil ?_);(intro W hE');(replace hE:=l7 hE');(clear hE');rename World=>w2;have hE2:=hEq.trans hE;have hIB2:=HIB.out.ext (hE1.trans hE);clear hbx cS;cases ht:N.testBit 0
     · have hbit:(((N % 2:Nat):Int) == 1)=false:=by
        rw[Nat.testBit_zero,decide_eq_false_iff_not] at ht;rw[beq_eq_false_iff_ne];omega
       have hcR:=fun W (hW:Ext wb W) vN (hI:c8 W vN (d6 (X++[k])))=>Hih.out (X++[k]) N k vN W (hg _ hW) hI hN ht (by omega) (by omega) (by simp;omega) (by intro y hy;rw[List.mem_append,List.mem_singleton] at hy;rcases hy with hy | rfl;exact hXo y hy;exact hlt)
       obtain⟨Y,hY⟩:∃Y,Y=zfS l f (X++[k]) N k:=⟨_,rfl⟩
       have hYl:Y.length≤24:=by rw[hY];exact (dk6 Hgr.out f (X++[k]) N k hN ht (by intro y hy;rw[List.mem_append,List.mem_singleton] at hy;rcases hy with hy | rfl;exact hXo y hy;exact hlt) (by simp;omega)).2
       have hMo:=Lib.hid (Hmo.out ht)
       have hLe:=Lib.hid (Hle.out ht)
       rw[←hY] at hcR hMo hLe
       have HXw:=Lib.hid (fun W (hW:Ext w2 W)=>HX.out W (hE2.trans hW))
       have hln:(d6 X).length+[(k:Int)].length≤17592186044416:=by rw[j8];simp;omega
       have hb2:=fun W (hW:Ext w2 W)=>hb W (hE2.trans hW)
       have hcR2:=fun W (hW:Ext w2 W)=>hcR W (hE2.trans hW)
       clear hY ht hcR
       have hEz:=hE
       clear hE
       have hE:=Ext.refl w2
       have hcl:d6 (X++[k])=d6 X++[(k:Int)]:=by simp[d6]
       rw[hcl] at hcR2
       have Hcl:=Lib.hid hcl
       clear hcl
       go_upto_region 7 with fail
       go_cut [12] (fun s12 wx=>LiP w2 Y s12 wx)
       case first =>
        (first | (go_region_held3 (fun W=>Ext w2 W∧W.cell? ⟨w.heap.size,0,none⟩=some v) (exact⟨xq,hb2 _ xq⟩) (first | (go_at_call 180;have hDi:=hOD;(with_reducible refine Calls.mono (hcR2 _ xq _ (N0.own hDi (Ext.refl _)).ints) ?_);rintro eF wF ⟨aoY,cY,rfl,hIY,hXF⟩;have hHF:=Ext.trans (a:=w2) xq hXF) | (have hOq:=hOC;refine M6 slI rfl _ _ rfl w2 w2 _ _ (d6 X) [(k:Int)] (Or.inr (by first | exact hOC | exact hOC.alloc _ | exact (hOC.alloc _).drew)) (Blk.ints1 (T:=3) (by repeat (first | (with_reducible assumption) | (with_reducible exact Blk.new _ _ _) | ((with_reducible refine Blk.new' ?_);simp[go_sem];done) | (with_reducible apply Blk.alloc) | (with_reducible apply Blk.drew) | (with_reducible refine Blk.ext ?_ hEC)))) xq hln rfl rfl ?_;intro vD wD hOD hXD hTD) | (refine bn8 slI rfl _ _ rfl _ _ (d6 X) rfl rfl (by repeat (first | (with_reducible assumption) | (with_reducible exact Blk.new _ _ _) | ((with_reducible refine Blk.new' ?_);simp[go_sem];done) | (with_reducible apply Blk.alloc) | (with_reducible apply Blk.drew))) (HXw.out _ xq) w2 (by first | exact Nat.le_refl _ | omega | (simp;omega)) xq ?_;intro aoC cC wC hOC hZC hEC;have hXC:=Ext.trans (a:=w2) xq hEC))) | (fail "the region"));all_goals (go_wp2_with fail;go_meet;exact⟨aoY,cY,rfl,hIY,hHF⟩)
       case rest =>
        obtain⟨aoY,cY,rfl,hIY,hEN⟩:=hcut;have hEf:=hE2.trans hEN;by_cases hq:(zfK l f X S m k).length<Y.length
        · have Hn:=Lib.hid (hMo.out hq);have hqI:(((zfK l f X S m k).length:Nat):Int)<((Y.length:Nat):Int):=(by omega);clear hq;go_wp2_with fail;go_roundw;(case rel=>exact⟨k+1,aoY,cY,by omega,by omega,by go_num,by rw[Hn.out],by rw[Hn.out];exact hIY,hEf⟩);case measure=>(simp[intOf];omega)
        · have Hn:=Lib.hid (hLe.out hq);have hqI:¬(((zfK l f X S m k).length:Nat):Int)<((Y.length:Nat):Int):=(by omega);clear hq;go_wp2_with fail;go_roundw;(case rel=>exact⟨k+1,aoB,cB,by omega,by omega,by go_num,by rw[Hn.out],by rw[Hn.out];exact hIB2.ext hEN,hEf⟩);case measure=>(simp[intOf];omega)
     · have hbit:(((N % 2:Nat):Int) == 1)=true:=by
        rw[Nat.testBit_zero,decide_eq_true_iff] at ht;rw[ht];rfl
       have Hn:=Lib.hid (Hno.out ht)
       clear ht
       go_wp2_with fail
       go_roundw
       case rel=>exact⟨k+1,aoB,cB,by omega,by omega,by go_num,by rw[Hn.out],by rw[Hn.out];exact hIB2,hE2⟩
       case measure=>(simp[intOf];omega)
   · have hkl:k=ord l:=(by omega);have Hn:=Lib.hid (show zfS l (f+1) X S m=zfK l f X S m k by rw[He.out,hkl]);clear hkl;go_wp2_with (go_at_call 43;refine cO.mono ?_;rintro e1 w1 ⟨rfl,hE1⟩);go_ret;exact⟨aoB,cB,by rw[Hn.out];rfl,by rw[Hn.out];exact HIB.out.ext hE1,hE0.trans (hE.trans hE1)⟩
theorem bn5(v:Value)(l:List Int)(w:World)(h:c8 w v l) :
 Calls Tryz.prog 61 #[.agg #[v]] w fun e w'=>∃ao c,e=.returned (.tuple #[.slice ao (lzL l).length c,.bool (lzB l)])∧c8 w' (.slice ao (lzL l).length c) (d6 (lzL l))∧Ext w w':=by
 obtain⟨wb,Hwb,hE0,hb,hg,hE,Hsz⟩:=j60 28 h;clear h;have hbx:=hb wb hE;have cG:=q9 v l wb (hg _ hE);cases hgr:c9 l
 · have hB:lzB l=false:=(by unfold lzB;rw[hgr];rfl);have Hs:=Lib.hid (And.intro hB (cm1 hB));rw[hgr] at cG;clear hB;go_enter Tryz.func61,Tryz.ntmps61;go_wp2_with fail;rw[←Hwb.out];refine cG.mono ?_;rintro e w1 ⟨rfl,hE1⟩;go_wp2_with fail;have hEf:=hE0.trans hE1;exact bodyPost_ret (v:=.tuple #[.slice (some ⟨w1.heap.size,0,none⟩) 0 0,.bool false]) (by simp[results,Tryz.results61,go_sem]) rfl ⟨_,_,by rw[Hs.out.1,Hs.out.2];rfl,by rw[Hs.out.2];exact (q5 (TI:=3) (n:=0) (by omega) hEf (d6 []) rfl).ints,Ext.alloc hEf _⟩
 rw[hgr] at cG;have Hgr:=Lib.hid hgr;have hob:=l8 hgr;have cO:=fun W (hW:Ext wb W)=>m4 v l W (hg _ hW) Hgr;by_cases hm:ord l≤9;rotate_left
 · have hB:lzB l=false:=(by unfold lzB;rw[hgr];simpa using hm);have Hs:=Lib.hid (And.intro hB (cm1 hB));clear hB;go_enter Tryz.func61,Tryz.ntmps61;go_wp2_with fail;rw[←Hwb.out];refine cG.mono ?_;rintro e w1 ⟨rfl,hE1⟩;have hb1:=hb w1 hE1;go_wp2_with (refine (cO _ hE1).mono ?_;rintro e w2 ⟨rfl,hE2⟩);have hEf:=hE0.trans (hE1.trans hE2);exact bodyPost_ret (v:=.tuple #[.slice (some ⟨w2.heap.size,0,none⟩) 0 0,.bool false]) (by simp[results,Tryz.results61,go_sem]) rfl ⟨_,_,by rw[Hs.out.1,Hs.out.2];rfl,by rw[Hs.out.2];exact (q5 (TI:=3) (n:=0) (by omega) hEf (d6 []) rfl).ints,Ext.alloc hEf _⟩
 have hB:lzB l=true:=by unfold lzB;rw[hgr];simpa using hm
 have Hs:=Lib.hid (And.intro hB (dg1 hB));have cF:=fun W (hW:Ext wb W) vN (hI:c8 W vN (d6 []))=>dx4 v l Hgr (ord l+1) [] 0 1 vN W (hg W hW) hI (Nat.two_pow_pos _) (by simp) (by omega) (by simp[S8]) (by simp) (by simp);obtain⟨Z,hZ⟩:∃Z,Z=zfS l (ord l+1) [] 0 1:=⟨_,rfl⟩;rw[←hZ] at cF Hs;clear hB hgr hZ;go_enter Tryz.func61,Tryz.ntmps61;go_wp2_with fail;rw[←Hwb.out];refine cG.mono ?_;rintro e w1 ⟨rfl,hE1⟩;have hb1:=hb w1 hE1;go_wp2_with (go_at_call 43;refine (cO _ hE1).mono ?_;rintro e w2 ⟨rfl,hE2⟩;have hE12:=hE1.trans hE2;have hb2:=hb w2 hE12);have hO:Own 3 w2 (w2.alloc (.cells #[] 3)) (.slice (some ⟨w2.heap.size,0,none⟩) 0 0) (d6 []):=q5 (TI:=3) (n:=0) (by omega) (Ext.refl w2) (d6 []) rfl;have hE3:=hE12.trans ((Ext.refl w2).alloc (.cells #[] 3));refine (cF _ hE3 _ hO.ints).mono ?_;rintro e w3 ⟨aoZ,cZ,rfl,hIZ,hE4⟩;go_wp2_with fail;exact bodyPost_ret (v:=.tuple #[.slice aoZ Z.length cZ,.bool true]) (by simp[results,Tryz.results61,go_sem]) rfl ⟨_,_,by rw[Hs.out.1,Hs.out.2],by rw[Hs.out.2];exact hIZ,hE0.trans (hE3.trans hE4)⟩
end Go.Zz
