/- Plain: bytes of a text, numbers read out of a text, texts cut at a byte. -/
import Derived.Test.YtnnbhcalddkmmaaGreatGr21
set_option linter.unusedSimpArgs false
set_option linter.unusedVariables false
set_option linter.unnecessarySimpa false
set_option maxHeartbeats 4000000
set_option maxRecDepth 20000
namespace Go.Zz
open Go.RowKit Go.Proofs
def bt(s:ByteArray)(i:Nat):Nat:=(s.data.toList.getD i 0).toNat
theorem j98(m:Nat):b28 m ⟨#[]⟩=strOfNums (rd m).reverse:=by
 rw[c77];apply ByteArray.ext;simp
theorem d98{n:Nat}(h:0<n):o3 (-(n:Int))=⟨#[45]⟩++b28 n ⟨#[]⟩:=by
 unfold o3;rw[if_neg om,if_pos om,Int.natAbs_neg,Int.natAbs_natCast]
theorem ct8(n:Nat)(hn:n<1000000000000)(hp:0<n)(w:World) :
 Calls Tryz.prog 45 #[.int .i64 (-(n:Int))] w fun e w'=>e=.returned (.string (o3 (-(n:Int))))∧Ext w w':=by
 have h0:¬n=0:=om;have h0b:(-(n:Int) == 0)=false:=by rw[beq_eq_false_iff_ne];omega
 have h1:0<n:=hp;have h1b:(0:Int)<n:=om;have Hf:=zh (d98 hp);go_in;go_wp2_with fail;go_loopw [0,3] (fun d s wr=>∃m:Nat,m<1000000000000∧d=.int .i64 (-(m:Int))∧Ext w wr∧∃t:ByteArray,s=.string t∧t.size+m<=n∧Hid (b28 m t=b28 n ⟨#[]⟩)) (fun d _ _=>(intOf d).natAbs);case atStart=>exact⟨n,hn,rfl,er _,_,rfl,by simp[ByteArray.size],zh rfl⟩
 case round =>
  obtain⟨m,hm,rfl,hE,t,rfl,hsz,Ht⟩:=hrel;by_cases hz:m=0
  . subst hz;go_wp2_with fail;go_ret;exact⟨j9 (by rw[Hf.out,<-Ht.out,bm2]),hE⟩
  . have h2:¬(m:Int)=0:=(by omega);obtain⟨r,hr⟩:∃r:Nat,(m:Int) % 10=r:=⟨m % 10,om⟩;have hr10:r<10:=om;obtain⟨q,hq⟩:∃q:Nat,(m:Int) / 10=q:=⟨m / 10,om⟩;have Hr:=zh (show r=m % 10 by omega);have Hq:=zh (show q=m / 10 by omega);by_cases hr0:0<r
    . have hr1:(0:Int)<r:=(by omega);have hcv:=bl5 wr (48+r);have hs1:(strOfNums [48+(r:Int)]).size=1:=strOfNums_size _;go_wp2_with fail;go_roundw;case rel =>
       have hq':=Hq.out;have hr':=Hr.out;exact⟨q,om,zg,hE.alloc _,_,rfl,by (rw[ByteArray.size_append,hs1];omega),zh (by rw[<-Ht.out,bi5 t hz,<-hq',<-hr'])⟩
      case measure =>
       exact zz140
    . have hr1:r=0:=(by omega);subst hr1;have hcv:=bl5 wr 48;have hs1:(strOfNums [(48:Int)]).size=1:=strOfNums_size _;go_wp2_with fail;go_roundw;case rel =>
       have hq':=Hq.out;have hr':=Hr.out;exact⟨q,om,zg,hE.alloc _,_,rfl,by (rw[ByteArray.size_append,hs1];omega),zh (by rw[<-Ht.out,bi5 t hz,<-hq',<-hr'];rfl)⟩
      case measure =>
       exact zz140
theorem zz147{P:Prop}(h:P:=by have hq':=Hq.out;have hr':=Hr.out;have hs':=Hsz.out;exact⟨q,_,om,zg,hE1,hO1,by (simp;omega),by rw[<-Hl.out,bj7 hz,<-hq',<-hr'];simp⟩):P:=h
theorem d15(n:Nat)(hn:n<1000000000000)(hp:0<n)(w:World) :
 Calls Tryz.prog 98 #[.int .i64 (-(n:Int))] w fun e w'=>e=.returned (.string (o3 (-(n:Int))))∧Ext w w':=by
 have h0:¬n=0:=om;have h0b:(-(n:Int) == 0)=false:=by rw[beq_eq_false_iff_ne];omega
 have h1:0<n:=hp;have h1b:(0:Int)<n:=om;have hO0:=c38 (er w);have hE0:=(er w).alloc (.cells #[] 5);go_in;go_wp2_with fail;go_loopw [3,4] (fun v d wr=>∃(m:Nat) (l:List Int),m<1000000000000∧d=.int .i64 (-(m:Int))∧Ext w wr∧Q2 w wr v l∧l.length+m<=n∧l++rd m=rd n) (fun _ d _=>(intOf d).natAbs);case atStart=>exact⟨n,[],hn,rfl,hE0,hO0,zm,zm⟩
 case round =>
  obtain⟨m,l,hm,rfl,hE,hO,hsz,hl⟩:=hrel;by_cases hz:m=0
  . subst hz;rw[bs4,List.append_nil] at hl;have Hl:=zh hl;have hlb:l.length<17592186044416:=om;clear hl;go_wp2_with (at_builtin;go_loud (refine b24 rfl _ _ rfl w _ _ _ _ hO hE hlb rfl rfl ?_;intro v1 w1 hO1 hE1;obtain⟨X,hX⟩:∃X:List Int,X=l++[45]:=⟨_,rfl⟩;rw[<-hX] at hO1;have hl0:0<X.length:=(by rw[hX];simp);obtain⟨g,c,hv,hlc,hg0,hg1,-⟩:=hO1.shape hl0;obtain⟨L,hL⟩:=nq (X.length);have hL2:L<=n+1:=(by rw[hL,hX];simp;omega);rw[<-hL] at hl0 hlc hv;subst hv;have HL:=zh hL;have HX:=zh hX;have HO:=zh hO1;clear hL hX hO1 hO));have hixB:∀(i:Nat) W,i<L->(Instr.indexAt 22 (.slice (some ⟨g,0,none⟩) L c) (.int .i64 (i:Int))).run Tryz.prog W=.ok (.pointer (some ⟨g,i,none⟩)) W:=by
     intro i W hi;rw[run_indexAt_slice (h:=elB),if_pos om,jf3];exact zz71
    go_wp2_with fail;go_loopw [6,7] (fun i j wr=>∃(k jn:Nat),k<=jn+1∧jn+k+1=L∧i=.int .i64 k∧j=.int .i64 jn∧Ext w wr∧Q2 w wr (.slice (some ⟨g,0,none⟩) L c) (S0 X k)) (fun _ j _=>(intOf j).toNat);(case atStart=>exact⟨0,L - 1,om,om,rfl,zg,hE1,by rw[c46];exact HO.out⟩);case round =>
     obtain⟨k,jn,hk,hkj,rfl,rfl,hE2,hO2⟩:=hrel;have Hkj:=zh hkj;by_cases hlt:k<jn
     . have hkL:k<L:=(by omega);have hjL:jn<L:=om;clear hkj;have hl2:(S0 X k).length=L:=(by rw[T6,<-HL.out]);obtain⟨hck,hfk⟩:=hO2.cellAt hl2 k hkL;obtain⟨hcj,hfj⟩:=hO2.cellAt hl2 jn hjL;have Hl2:=zh hl2;have HO2:=zh hO2;clear hl2 hO2;have hne:¬k=jn:=om;have hne2:¬jn=k:=om;go_wp2_with fail;go_big_region;go_wp2_with fail;go_roundw;case rel =>
        have hkj':=Hkj.out;have hj2:(S0 X k).length - 1 - k=jn:=(by rw[Hl2.out];omega);obtain⟨hO3,hG3⟩:=HO2.out.stored_grown Hl2.out k (nth (S0 X k) jn);obtain⟨hO4,hG4⟩:=hO3.stored_grown (by rw[List.length_set];exact Hl2.out) jn (nth (S0 X k) k);have hst:=c45 X k (by rw[<-HL.out];omega);rw[<-HL.out,show L - 1 - k=jn by omega] at hst;rw[hst] at hO4;exact⟨k+1,jn - 1,om,om,zg,zg,((hE2.grown hG3 (fun q hq=>by cases hq;exact hg0)).grown hG4 (fun q hq=>by cases hq;exact hg0)).drew,hO4⟩
       case measure=>exact zm1
     . clear hkj;have hcv:=hO2.str (by rw[T6,<-HL.out]);have He:Hid (strOfNums (S0 X k)=o3 (-(n:Int))):=zh (by
        have hk':=Hkj.out;have hL':=HL.out;rw[ch8 X k om,HX.out,Hl.out,d98 hp,j98];apply ByteArray.ext;simp[strOfNums])
       go_wp2_with fail;go_ret;exact⟨j9 He.out,hE2⟩
  . have h2:¬(m:Int)=0:=(by omega);obtain⟨r,hr⟩:∃r:Nat,(m:Int) % 10=r:=⟨m % 10,om⟩;have hr10:r<10:=om;obtain⟨q,hq⟩:∃q:Nat,(m:Int) / 10=q:=⟨m / 10,om⟩;have Hr:=zh (show r=m % 10 by omega);have Hq:=zh (show q=m / 10 by omega);have Hl:=zh hl;have Hsz:=zh hsz;have hlb:l.length<17592186044416:=om;clear hl hsz;by_cases hr0:0<r
    . have hr1:(0:Int)<r:=(by omega);go_wp2_with (at_builtin;refine b24 rfl _ _ rfl w _ _ _ _ hO hE hlb rfl rfl ?_;intro v1 w1 hO1 hE1);go_roundw;case rel =>
       exact zz147
      case measure =>
       exact zz140
    . have hr1:r=0:=(by omega);subst hr1;go_wp2_with (at_builtin;refine b24 rfl _ _ rfl w _ _ _ _ hO hE hlb rfl rfl ?_;intro v1 w1 hO1 hE1);go_roundw;case rel =>
       exact zz147
      case measure =>
       exact zz140
theorem ct6(n:Int)(hn : -1000000000000<n∧n<1000000000000)(w:World) :
 Calls Tryz.prog 45 #[.int .i64 n] w fun e w'=>e=.returned (.string (o3 n))∧Ext w w':=by
 by_cases h:n<0
 . obtain⟨m,rfl⟩:∃m:Nat,n = -(m:Int):=⟨n.natAbs,om⟩;exact ct8 m om om w
 . exact A2 n om w
theorem d10(n:Int)(hn : -1000000000000<n∧n<1000000000000)(w:World) :
 Calls Tryz.prog 98 #[.int .i64 n] w fun e w'=>e=.returned (.string (o3 n))∧Ext w w':=by
 by_cases h:n<0
 . obtain⟨m,rfl⟩:∃m:Nat,n = -(m:Int):=⟨n.natAbs,om⟩;exact d15 m om om w
 . exact A4 n om w
theorem co3(n:Int)(hn : -9<=n∧n<1000000000000)(w:World) :
 Calls Tryz.prog 45 #[.int .i64 n] w fun e w'=>e=.returned (.string (o3 n))∧Ext w w':=ct6 n ⟨om,hn.2⟩ w
theorem cq0(n:Int)(hn : -9<=n∧n<1000000000000)(w:World) :
 Calls Tryz.prog 98 #[.int .i64 n] w fun e w'=>e=.returned (.string (o3 n))∧Ext w w':=d10 n ⟨om,hn.2⟩ w
theorem bf6{n:Int}(h : -9<=n∧n<1000000000000):(o3 n).size<=13:=by
 unfold o3;split
 . decide
 . split
   . have:=bm1 (m:=n.natAbs) om;exact zz99
   . have:=bm1 (m:=n.natAbs) om;omega
theorem du8{n:Int}(h : -9<=n∧n<1000000000000):1<=(o3 n).size:=by
 unfold o3;split
 . decide
 . split
   . exact zz99
   . exact cw4 om
theorem O7{l:List Int}(h:∀i,i<l.length -> -9<=nth l i∧nth l i<1000000000000)(hl:l.length<=40):(F7 l).size<=560:=by
 unfold F7;split
 . decide
 . have:=b81 b44 (fun i=>o3 (nth l i)) (by decide) l.length fun i hi=>bf6 (h i hi);omega
theorem b37(v:Value)(l:List Int)(w:World)(h:c9 w v l)(hr:∀i,i<l.length -> -9<=nth l i∧nth l i<1000000000000)(hl:l.length<=1000) :
 Calls Tryz.prog 110 #[v] w fun e w'=>e=.returned (.string (F7 l))∧Ext w w':=by
 obtain⟨ao,c,adr,rfl,hlen,hadr,hcell⟩:=h.op;have hix:=j3 (c:=c) elI szI hadr;clear hadr h;have Hr:=zh hr;clear hr;have hO0:=bn3 (er w);have hE0:=(er w).alloc (.cells #[] 9);by_cases h0:l.length=0
 . have He:Hid (F7 l=⟨#[110,111,110,101]⟩):=zh (by unfold F7;rw[if_pos h0]);exact zz124
 . have h00:((l.length:Int) == 0)=false:=(by rw[beq_eq_false_iff_ne];omega);have He:Hid (F7 l=jn b44 (C0 (l.map o3)) (l.map o3).length):=zh (by
    unfold F7;rw[if_neg h0,List.length_map];exact bw5 _ _ _ _ fun i hi=>(bc0 l i hi).symm)
   go_in;go_wp2_with fail;go_loopw [3,12] (fun v i wr=>∃k:Nat,k<=l.length∧i=.int .i64 k∧Y8 w wr v ((l.take k).map o3)∧Ext w wr) (fun _ i _=>l.length - (intOf i).toNat);(case atStart=>exact⟨0,om,rfl,hO0,hE0⟩);case round =>
    obtain⟨k,hk,rfl,hO,hE⟩:=hrel;by_cases hlt:k<l.length
    . have hck:=hcell k _ hlt hE;have hrk:=Hr.out k hlt;have hcI:=cq0 (nth l k) hrk;exact zz46
    . have hkl:k=l.length:=(by omega);subst hkl;rw[List.take_length] at hO;have hS:=hO.strs;have hc:=c25 _ (l.map o3) b44 _ hS (by decide) (fun i hi=>by
       rw[List.length_map] at hi
       rw[bc0 l i hi];exact bf6 (Hr.out i hi))
      exact zz169
theorem b19(v:Value)(m:List Int)(w:World)(h:c9 w v m)(hr:∀i,i<m.length -> -9<=nth m i∧nth m i<1000000000000)(hl:m.length<=1000) :
 Calls Tryz.prog 69 #[v] w fun e w'=>e=.returned (.string (F7 m))∧Ext w w':=by
 obtain⟨aoL,cL,adrL,rfl,hlenL,hadrL,hcellL⟩:=h.op;have hixL:=j3 (c:=cL) elI szI hadrL;have Hin:=zh hr;clear hadrL h hr;go_in;go_wp2_with fail;go_loopw [3,4] (fun s i wr=>∃(k:Nat) (t:ByteArray),k<=m.length∧i=.int .i64 k∧s=.string t∧Hid (t=jn b44 (fun i=>o3 (nth m i)) k)∧Ext w wr) (fun _ i _=>m.length - (intOf i).toNat);case atStart=>exact⟨0,_,om,rfl,rfl,zh rfl,er _⟩
 case round =>
  obtain⟨k,t,hk,rfl,rfl,Ht,hEr⟩:=hrel;have hts:t.size<=14*k:=by rw[Ht.out];exact b81 _ _ (by decide) k fun i hi=>bf6 (Hin.out i om)
  by_cases hlt:k<m.length
  . have hck:=hcellL k _ hlt hEr;have hcF:=co3 (nth m k) (Hin.out k hlt);have hsz:(o3 (nth m k)).size<=13:=bf6 (Hin.out k hlt);obtain⟨u,hu⟩:=nq (o3 (nth m k));rw[<-hu] at hsz hcF;have He:=zh hu;clear hu;by_cases hk0:0<k
    . exact zz92
    . exact zz50
  . have hkl:k=m.length:=(by omega);subst hkl;by_cases h0:m.length=0
    . have ht0:t=⟨#[]⟩:=(by rw[Ht.out,h0];rfl);subst ht0;have Hf:Hid (F7 m=⟨#[110,111,110,101]⟩):=zh (by unfold F7;rw[if_pos h0]);clear h0 hts;go_wp2_with fail;go_ret;exact⟨j9 Hf.out.symm,hEr⟩
    . have He:Hid (F7 m=t):=zh (by unfold F7;rw[if_neg h0,Ht.out]);have h1:=br5 b44 (fun i=>o3 (nth m i)) m.length om fun i hi=>du8 (Hin.out i hi);rw[<-Ht.out] at h1;have ht1:=bk5 h1;go_wp2_with fail;go_ret;exact⟨j9 He.out.symm,hEr⟩
theorem dr6(c:List Int) : -1<=W9 c∧W9 c<=9:=by
 unfold W9;split
 . split
   . rename_i n hn;have:=List.mem_of_find?_eq_some hn;rw[List.mem_range] at this;omega
   . omega
 . omega
theorem j78(c:List Int):(∀i,i<(b9 (zcL c)).length -> -9<=nth (b9 (zcL c)) i∧nth (b9 (zcL c)) i<1000000000000)∧(b9 (zcL c)).length<=40:=by
 unfold zcL;split
 . rename_i m hm;refine⟨fun i hi=>?_,by rw[j2];have:=B7 m;omega⟩;have:=b66 m i hi;omega
 . exact⟨fun i hi=>by simp[b9] at hi,by simp[b9]⟩
def c18(A B C D:ByteArray)(zb n3:Bool):ByteArray:=(if n3 then (((if zb then ((((((⟨#[101,113,117,97,116,105,111,110,32]⟩:ByteArray)++A)++(⟨#[32,115,111,108,117,116,105,111,110,115,32]⟩:ByteArray))++B)++(⟨#[32,114,101,103,117,108,97,114,32]⟩:ByteArray))++C) else ((((⟨#[101,113,117,97,116,105,111,110,32]⟩:ByteArray)++A)++(⟨#[32,115,111,108,117,116,105,111,110,115,32]⟩:ByteArray))++B))++(⟨#[32,110,117,109,98,101,114,32]⟩:ByteArray))++D) else (if zb then ((((((⟨#[101,113,117,97,116,105,111,110,32]⟩:ByteArray)++A)++(⟨#[32,115,111,108,117,116,105,111,110,115,32]⟩:ByteArray))++B)++(⟨#[32,114,101,103,117,108,97,114,32]⟩:ByteArray))++C) else ((((⟨#[101,113,117,97,116,105,111,110,32]⟩:ByteArray)++A)++(⟨#[32,115,111,108,117,116,105,111,110,115,32]⟩:ByteArray))++B)))
def c17(c:List Int):ByteArray :=
 if eqB c then
  c18 (F7 c) (o3 (C5 c 4 [] c.length []:Nat)) (F7 (b9 (zcL c))) (o3 (W9 c)) (zcB c) (decide (c.length<=3))
 else ⟨#[]⟩
theorem j06{c:List Int}(h:eqB c=false):c17 c=⟨#[]⟩:=by unfold c17;rw[h];rfl
theorem dp1{c:List Int}(h:eqB c=true):c17 c=c18 (F7 c) (o3 (C5 c 4 [] c.length []:Nat)) (F7 (b9 (zcL c))) (o3 (W9 c)) (zcB c) (decide (c.length<=3)):=by
 unfold c17;rw[if_pos h]
theorem j99(A B C D:ByteArray)(zb n3:Bool):(if n3 then C9 [(if zb then C9 [C9 [(⟨#[101,113,117,97,116,105,111,110]⟩:ByteArray),A,(⟨#[115,111,108,117,116,105,111,110,115]⟩:ByteArray),B],(⟨#[114,101,103,117,108,97,114]⟩:ByteArray),C] else C9 [(⟨#[101,113,117,97,116,105,111,110]⟩:ByteArray),A,(⟨#[115,111,108,117,116,105,111,110,115]⟩:ByteArray),B]),(⟨#[110,117,109,98,101,114]⟩:ByteArray),D] else (if zb then C9 [C9 [(⟨#[101,113,117,97,116,105,111,110]⟩:ByteArray),A,(⟨#[115,111,108,117,116,105,111,110,115]⟩:ByteArray),B],(⟨#[114,101,103,117,108,97,114]⟩:ByteArray),C] else C9 [(⟨#[101,113,117,97,116,105,111,110]⟩:ByteArray),A,(⟨#[115,111,108,117,116,105,111,110,115]⟩:ByteArray),B]))=c18 A B C D zb n3:=by
 unfold c18;apply Y0;cases zb<;>cases n3<;>simp[C9,jn,C0,spB,List.getD]
theorem zz121{P:Prop}(h:P:=by have Hs:=zh (j06 he);rw[he] at cE;go_in;go_wp2_with fail;refine (cE _ (er _)).mono ?_;rintro e w1 ⟨rfl,hE1⟩;go_wp2_with fail;go_ret;exact⟨j9 Hs.out.symm,hE1⟩):P:=h
theorem zz187{P:Prop}(h:P:=by have h1:=c73 c 4 [] c.length [];have h3:4 ^ c.length<=4 ^ 4:=Nat.pow_le_pow_right om h4l;omega):P:=h
theorem cd5(u:Value)(c:List Int)(w:World)(hu:c9 w u c) :
 Calls Tryz.prog 35 #[u] w fun e w'=>e=.returned (.string (c17 c))∧Ext w w':=by
 have cE:=fun W (hW:Ext w W)=>b01 u c W (hu.ext hW);have HU:=zh hu;cases he:eqB c
 . exact zz121
 rw[he] at cE;have h24:=T5 he;obtain⟨h2l,h4l,hcv⟩:=h24;have hcv2:∀i,i<c.length -> -9<=nth c i∧nth c i<1000000000000:=fun i hi=>by have:=hcv i hi;omega
 have hcN:C5 c 4 [] c.length []<=256:=by
  exact zz187
 have hrd:=dr6 c;have hzl:=j78 c;have Hs:=zh (dp1 he);obtain⟨ao,cc,rfl,-⟩:=hu;have sA:=O7 hcv2 om;have sB:=o9 (n:=((C5 c 4 [] c.length []:Nat):Int)) om;have sC:=O7 hzl.1 hzl.2;have sD:=o9 (n:=W9 c) om;have cS:=fun W (hW:Ext w W)=>ck2 (.slice ao c.length cc) c 4 W (HU.out.ext hW) he om;have cA:=fun W (hW:Ext w W)=>b37 (.slice ao c.length cc) c W (HU.out.ext hW) hcv2 om;have cB:=fun W=>A4 ((C5 c 4 [] c.length []:Nat):Int) om W;have cC:=fun v W (hv:c9 W v (b9 (zcL c)))=>b37 v (b9 (zcL c)) W hv hzl.1 om;have cD:=fun W=>A4 (W9 c) om W;have cZ:=fun W (hW:Ext w W)=>ck4 (.slice ao c.length cc) c W (HU.out.ext hW);have cR:=fun W (hW:Ext w W)=>cq6 (.slice ao c.length cc) c W (HU.out.ext hW);obtain⟨n3,hn3⟩:=nq (decide (c.length<=3));have h3t:n3=true->(c.length:Int)<=3:=fun e=>by rw[e] at hn3;have:=of_decide_eq_true hn3.symm;omega
 have h3f:n3=false->¬(c.length:Int)<=3:=fun e=>by rw[e] at hn3;have:=of_decide_eq_false hn3.symm;omega
 rw[<-hn3] at Hs;obtain⟨A,hA⟩:=nq (F7 c);obtain⟨B,hB⟩:∃x,x=o3 ((C5 c 4 [] c.length []:Nat):Int):=⟨_,rfl⟩;obtain⟨C,hC⟩:=nq (F7 (b9 (zcL c)));obtain⟨D,hD⟩:=nq (o3 (W9 c));obtain⟨zb,hzb⟩:=nq (zcB c);rw[<-hA] at cA sA Hs;rw[<-hB] at cB sB Hs;simp only[<-hC] at cC sC Hs;rw[<-hD] at cD sD Hs;simp only[<-hzb] at cZ Hs;obtain⟨N,hNd⟩:=nq (C5 c 4 [] c.length []);obtain⟨rv,hrv⟩:=nq (W9 c);simp only[<-hNd,show ((4:Nat):Int)=4 from rfl] at cS cB hcN;simp only[<-hrv] at cR cD hrd;clear hA hB hC hD hzb hNd hrv he hcv hcv2 hzl hn3;obtain⟨X0,hX0,cL0⟩:=b70 [(⟨#[101,113,117,97,116,105,111,110]⟩:ByteArray),A,(⟨#[115,111,108,117,116,105,111,110,115]⟩:ByteArray),B] (by simp[o8];omega);have z0:X0.size<=700:=hX0 ▸ nle (b14 _) (by simp[G4,o8];omega);simp only[List.map_cons,List.map_nil,List.length_cons,List.length_nil,Nat.reduceAdd,Nat.zero_add] at cL0;obtain⟨X1,hX1,z1,cI1⟩:=J0 X0 zb [(⟨#[114,101,103,117,108,97,114]⟩:ByteArray),C] _ z0 (by simp[o8];omega) (by simp[G4,o8];omega);replace z1:X1.size<=1400:=nle z1 (by simp[G4,o8];omega);simp only[List.map_cons,List.map_nil,List.length_cons,List.length_nil,Nat.reduceAdd,Nat.zero_add] at cI1;obtain⟨X2,hX2,-,cI2⟩:=J0 X1 n3 [(⟨#[110,117,109,98,101,114]⟩:ByteArray),D] _ z1 (by simp[o8];omega) (by simp[G4,o8];omega);simp only[List.map_cons,List.map_nil,List.length_cons,List.length_nil,Nat.reduceAdd,Nat.zero_add] at cI2;have Hfin:Hid (c17 c=X2):=zh (by rw[hX2,hX1,hX0,Hs.out];exact (j99 A B C D zb n3).symm);clear hX0 hX1 hX2 z0 z1 sA sB sC sD Hs;cases n3
 . have h3I:=h3f rfl;have Hd:Hid (decide ((c.length:Int)<=3)=false):=zh (by simpa using h3I);clear h3t h3f;go_in;go_wp2_with fail;refine (cE _ (er _)).mono ?_;rintro e w1 ⟨rfl,hE1⟩;go_wp2_with (first
    | (go_at_call 151;refine (cS _ hE1).mono ?_;rintro e w2 ⟨vS,rfl,hOS,hE2'⟩;have hE2:=hE1.trans hE2';obtain⟨aS,kS,rfl,-⟩:=hOS.shape)
    | (go_at_call 110;with_reducible refine Calls.mono (cA _ hE2) ?_;rintro e w3 ⟨rfl,hE3'⟩;have hE3:=hE2.trans hE3')
    | (go_at_call 98;with_reducible refine Calls.mono (cB _) ?_;rintro e w4 ⟨rfl,hE4'⟩;have hE4:=hE3.trans hE4')
    | (go_at_call 96;refine (cL0 _).mono ?_;rintro e w5 ⟨rfl,hE5'⟩;have hE5:=hE4.trans (Ext.trans ((er _).alloc _) hE5'))
    | (go_at_call 152;refine (cZ _ hE5).mono ?_;rintro e w6 ⟨vZ,rfl,hOZ,hE6'⟩;have hE6:=hE5.trans hE6')
    | (go_at_call 110;with_reducible refine Calls.mono (cC _ _ hOZ.ints) ?_;rintro e w7 ⟨rfl,hE7'⟩;have hE7:=hE6.trans hE7')
    | (go_at_call 102;with_reducible refine Calls.mono (cI1 _) ?_;rintro e w8 ⟨rfl,hE8'⟩;have hE8:=hE7.trans (Ext.trans ((er _).alloc _) hE8'))
    | (go_at_call 153;refine (cR _ hE8).mono ?_;rintro e w9 ⟨rfl,hE9'⟩;have hE9:=hE8.trans hE9')
    | (go_at_call 98;with_reducible refine Calls.mono (cD _) ?_;rintro e w10 ⟨rfl,hE10'⟩;have hE10:=hE9.trans hE10')
    | (go_at_call 102;rw[Hd.out];with_reducible refine Calls.mono (cI2 _) ?_;rintro e w11 ⟨rfl,hE11'⟩;have hE11:=hE10.trans (Ext.trans ((er _).alloc _) hE11')))
   go_ret;exact⟨j9 Hfin.out.symm,hE11⟩
 . have h3I:=h3t rfl;clear h3t h3f;go_in;go_wp2_with fail;refine (cE _ (er _)).mono ?_;rintro e w1 ⟨rfl,hE1⟩;go_wp2_with (first
    | (go_at_call 151;refine (cS _ hE1).mono ?_;rintro e w2 ⟨vS,rfl,hOS,hE2'⟩;have hE2:=hE1.trans hE2';obtain⟨aS,kS,rfl,-⟩:=hOS.shape)
    | (go_at_call 110;with_reducible refine Calls.mono (cA _ hE2) ?_;rintro e w3 ⟨rfl,hE3'⟩;have hE3:=hE2.trans hE3')
    | (go_at_call 98;with_reducible refine Calls.mono (cB _) ?_;rintro e w4 ⟨rfl,hE4'⟩;have hE4:=hE3.trans hE4')
    | (go_at_call 96;refine (cL0 _).mono ?_;rintro e w5 ⟨rfl,hE5'⟩;have hE5:=hE4.trans (Ext.trans ((er _).alloc _) hE5'))
    | (go_at_call 152;refine (cZ _ hE5).mono ?_;rintro e w6 ⟨vZ,rfl,hOZ,hE6'⟩;have hE6:=hE5.trans hE6')
    | (go_at_call 110;with_reducible refine Calls.mono (cC _ _ hOZ.ints) ?_;rintro e w7 ⟨rfl,hE7'⟩;have hE7:=hE6.trans hE7')
    | (go_at_call 102;with_reducible refine Calls.mono (cI1 _) ?_;rintro e w8 ⟨rfl,hE8'⟩;have hE8:=hE7.trans (Ext.trans ((er _).alloc _) hE8'))
    | (go_at_call 153;refine (cR _ hE8).mono ?_;rintro e w9 ⟨rfl,hE9'⟩;have hE9:=hE8.trans hE9')
    | (go_at_call 98;with_reducible refine Calls.mono (cD _) ?_;rintro e w10 ⟨rfl,hE10'⟩;have hE10:=hE9.trans hE10')
    | (go_at_call 102;with_reducible refine Calls.mono (cI2 _) ?_;rintro e w11 ⟨rfl,hE11'⟩;have hE11:=hE10.trans (Ext.trans ((er _).alloc _) hE11')))
   go_ret;exact⟨j9 Hfin.out.symm,hE11⟩
theorem ca1(u:Value)(c:List Int)(w:World)(hu:c9 w u c) :
 Calls Tryz.prog 36 #[u] w fun e w'=>e=.returned (.string (c17 c))∧Ext w w':=by
 have cE:=fun W (hW:Ext w W)=>b58 u c W (hu.ext hW);have HU:=zh hu;cases he:eqB c
 . exact zz121
 rw[he] at cE;have h24:=T5 he;obtain⟨h2l,h4l,hcv⟩:=h24;have hcv2:∀i,i<c.length -> -9<=nth c i∧nth c i<1000000000000:=fun i hi=>by have:=hcv i hi;omega
 have hcN:C5 c 4 [] c.length []<=256:=by
  exact zz187
 have hrd:=dr6 c;have hzl:=j78 c;have Hs:=zh (dp1 he);obtain⟨ao,cc,rfl,-⟩:=hu;have sA:=O7 hcv2 om;have sB:=o9 (n:=((C5 c 4 [] c.length []:Nat):Int)) om;have sC:=O7 hzl.1 hzl.2;have sD:=o9 (n:=W9 c) om;have cS:=fun W (hW:Ext w W)=>ci3 (.slice ao c.length cc) c 4 W (HU.out.ext hW) he om;have cA:=fun W (hW:Ext w W)=>b19 (.slice ao c.length cc) c W (HU.out.ext hW) hcv2 om;have cB:=fun W=>A2 ((C5 c 4 [] c.length []:Nat):Int) om W;have cC:=fun v W (hv:c9 W v (b9 (zcL c)))=>b19 v (b9 (zcL c)) W hv hzl.1 om;have cD:=fun W=>A2 (W9 c) om W;have cZ:=fun W (hW:Ext w W)=>ci5 (.slice ao c.length cc) c W (HU.out.ext hW);have cR:=fun W (hW:Ext w W)=>co7 (.slice ao c.length cc) c W (HU.out.ext hW);obtain⟨n3,hn3⟩:=nq (decide (c.length<=3));have h3t:n3=true->(c.length:Int)<=3:=fun e=>by rw[e] at hn3;have:=of_decide_eq_true hn3.symm;omega
 have h3f:n3=false->¬(c.length:Int)<=3:=fun e=>by rw[e] at hn3;have:=of_decide_eq_false hn3.symm;omega
 rw[<-hn3] at Hs;obtain⟨A,hA⟩:=nq (F7 c);obtain⟨B,hB⟩:∃x,x=o3 ((C5 c 4 [] c.length []:Nat):Int):=⟨_,rfl⟩;obtain⟨C,hC⟩:=nq (F7 (b9 (zcL c)));obtain⟨D,hD⟩:=nq (o3 (W9 c));obtain⟨zb,hzb⟩:=nq (zcB c);rw[<-hA] at cA sA Hs;rw[<-hB] at cB sB Hs;simp only[<-hC] at cC sC Hs;rw[<-hD] at cD sD Hs;simp only[<-hzb] at cZ Hs;obtain⟨N,hNd⟩:=nq (C5 c 4 [] c.length []);obtain⟨rv,hrv⟩:=nq (W9 c);simp only[<-hNd,show ((4:Nat):Int)=4 from rfl] at cS cB hcN;simp only[<-hrv] at cR cD hrd;clear hA hB hC hD hzb hNd hrv he hcv hcv2 hzl hn3;cases zb;all_goals cases n3
 . have h3I:=h3f rfl;clear h3t h3f;go_in;go_wp2_with fail;refine (cE _ (er _)).mono ?_;rintro e w1 ⟨rfl,hE1⟩;go_wp2_with (first
    | (go_at_call 155;refine (cS _ hE1).mono ?_;rintro e w2 ⟨vS,rfl,hOS,hE2'⟩;have hE2:=hE1.trans hE2';obtain⟨aS,kS,rfl,-⟩:=hOS.shape)
    | (go_at_call 69;with_reducible refine Calls.mono (cA _ hE2) ?_;rintro e w3 ⟨rfl,hE3'⟩;have hE3:=hE2.trans hE3')
    | (go_at_call 45;with_reducible refine Calls.mono (cB _) ?_;rintro e w4 ⟨rfl,hE4'⟩;have hE4:=hE3.trans hE4')
    | (go_at_call 156;refine (cZ _ hE4).mono ?_;rintro e w6 ⟨vZ,rfl,hOZ,hE6'⟩;have hE6:=hE4.trans hE6';have hE7:=hE6)
    | (go_at_call 69;with_reducible refine Calls.mono (cC _ _ hOZ.ints) ?_;rintro e w7 ⟨rfl,hE7'⟩;have hE7:=hE6.trans hE7')
    | (go_at_call 157;refine (cR _ hE7).mono ?_;rintro e w9 ⟨rfl,hE9'⟩;have hE9:=hE7.trans hE9')
    | (go_at_call 45;with_reducible refine Calls.mono (cD _) ?_;rintro e w10 ⟨rfl,hE10'⟩;have hE10:=hE9.trans hE10'))
   go_ret;exact⟨j9 (by rw[Hs.out,c18];rfl),hE7⟩
 . have h3I:=h3t rfl;clear h3t h3f;go_in;go_wp2_with fail;refine (cE _ (er _)).mono ?_;rintro e w1 ⟨rfl,hE1⟩;go_wp2_with (first
    | (go_at_call 155;refine (cS _ hE1).mono ?_;rintro e w2 ⟨vS,rfl,hOS,hE2'⟩;have hE2:=hE1.trans hE2';obtain⟨aS,kS,rfl,-⟩:=hOS.shape)
    | (go_at_call 69;with_reducible refine Calls.mono (cA _ hE2) ?_;rintro e w3 ⟨rfl,hE3'⟩;have hE3:=hE2.trans hE3')
    | (go_at_call 45;with_reducible refine Calls.mono (cB _) ?_;rintro e w4 ⟨rfl,hE4'⟩;have hE4:=hE3.trans hE4')
    | (go_at_call 156;refine (cZ _ hE4).mono ?_;rintro e w6 ⟨vZ,rfl,hOZ,hE6'⟩;have hE6:=hE4.trans hE6';have hE7:=hE6)
    | (go_at_call 69;with_reducible refine Calls.mono (cC _ _ hOZ.ints) ?_;rintro e w7 ⟨rfl,hE7'⟩;have hE7:=hE6.trans hE7')
    | (go_at_call 157;refine (cR _ hE7).mono ?_;rintro e w9 ⟨rfl,hE9'⟩;have hE9:=hE7.trans hE9')
    | (go_at_call 45;with_reducible refine Calls.mono (cD _) ?_;rintro e w10 ⟨rfl,hE10'⟩;have hE10:=hE9.trans hE10'))
   go_ret;exact⟨j9 (by rw[Hs.out,c18];rfl),hE10⟩
 . have h3I:=h3f rfl;clear h3t h3f;go_in;go_wp2_with fail;refine (cE _ (er _)).mono ?_;rintro e w1 ⟨rfl,hE1⟩;go_wp2_with (first
    | (go_at_call 155;refine (cS _ hE1).mono ?_;rintro e w2 ⟨vS,rfl,hOS,hE2'⟩;have hE2:=hE1.trans hE2';obtain⟨aS,kS,rfl,-⟩:=hOS.shape)
    | (go_at_call 69;with_reducible refine Calls.mono (cA _ hE2) ?_;rintro e w3 ⟨rfl,hE3'⟩;have hE3:=hE2.trans hE3')
    | (go_at_call 45;with_reducible refine Calls.mono (cB _) ?_;rintro e w4 ⟨rfl,hE4'⟩;have hE4:=hE3.trans hE4')
    | (go_at_call 156;refine (cZ _ hE4).mono ?_;rintro e w6 ⟨vZ,rfl,hOZ,hE6'⟩;have hE6:=hE4.trans hE6')
    | (go_at_call 69;with_reducible refine Calls.mono (cC _ _ hOZ.ints) ?_;rintro e w7 ⟨rfl,hE7'⟩;have hE7:=hE6.trans hE7')
    | (go_at_call 157;refine (cR _ hE7).mono ?_;rintro e w9 ⟨rfl,hE9'⟩;have hE9:=hE7.trans hE9')
    | (go_at_call 45;with_reducible refine Calls.mono (cD _) ?_;rintro e w10 ⟨rfl,hE10'⟩;have hE10:=hE9.trans hE10'))
   go_ret;exact⟨j9 (by rw[Hs.out,c18];rfl),hE7⟩
 . have h3I:=h3t rfl;clear h3t h3f;go_in;go_wp2_with fail;refine (cE _ (er _)).mono ?_;rintro e w1 ⟨rfl,hE1⟩;go_wp2_with (first
    | (go_at_call 155;refine (cS _ hE1).mono ?_;rintro e w2 ⟨vS,rfl,hOS,hE2'⟩;have hE2:=hE1.trans hE2';obtain⟨aS,kS,rfl,-⟩:=hOS.shape)
    | (go_at_call 69;with_reducible refine Calls.mono (cA _ hE2) ?_;rintro e w3 ⟨rfl,hE3'⟩;have hE3:=hE2.trans hE3')
    | (go_at_call 45;with_reducible refine Calls.mono (cB _) ?_;rintro e w4 ⟨rfl,hE4'⟩;have hE4:=hE3.trans hE4')
    | (go_at_call 156;refine (cZ _ hE4).mono ?_;rintro e w6 ⟨vZ,rfl,hOZ,hE6'⟩;have hE6:=hE4.trans hE6')
    | (go_at_call 69;with_reducible refine Calls.mono (cC _ _ hOZ.ints) ?_;rintro e w7 ⟨rfl,hE7'⟩;have hE7:=hE6.trans hE7')
    | (go_at_call 157;refine (cR _ hE7).mono ?_;rintro e w9 ⟨rfl,hE9'⟩;have hE9:=hE7.trans hE9')
    | (go_at_call 45;with_reducible refine Calls.mono (cD _) ?_;rintro e w10 ⟨rfl,hE10'⟩;have hE10:=hE9.trans hE10'))
   go_ret;exact⟨j9 (by rw[Hs.out,c18];rfl),hE10⟩
theorem bj6(v:Value)(l:List Int)(d n:Nat)(w:World)(h:c9 w v l)(Hgr:Hid (j1 l=true))(hd:d<24)(hn:n<=24) :
 Calls Tryz.prog 348 #[.agg #[v],.int .i64 0,.int .i64 d,.int .i64 n] w fun e w'=>e=.returned (.int .i64 (F9 l 0 d n:Nat))∧Ext w w':=ba4 v l 0 d n w h Hgr om hd hn
theorem ba8(v:Value)(l:List Int)(d n:Nat)(w:World)(h:c9 w v l)(Hgr:Hid (j1 l=true))(hd:d<24)(hn:n<=24) :
 Calls Tryz.prog 333 #[.agg #[v],.int .i64 0,.int .i64 d,.int .i64 n] w fun e w'=>e=.returned (.int .i64 (F9 l 0 d n:Nat))∧Ext w w':=U9 v l 0 d n w h Hgr om hd hn
def jp2(b:Bool)(w:World)(e:Ending)(w':World):Prop:=∃p q,e=.returned (.tuple #[p,q,.bool b])∧Ext w w'
theorem dr5{a m:Nat}(ha:a<=24):wrap64 ((a:Int) / (m:Int))=((a / m:Nat):Int):=by
 rw[<-Int.natCast_ediv];exact c95 _ (by have:=Nat.div_le_self a m;omega)
theorem zz34{P:Prop}(h:P:=by go_in;go_wp2_with fail;rw[<-Hwb.out];refine (T8 _ _ _ (hg _ hE)).mono ?_;rintro e w1 ⟨rfl,hE1⟩;have hbx1:=hb _ hE1;go_wp2_with fail;refine (p8 _ _ _ _ (hg _ hE1) hs).mono ?_;rintro e wZ ⟨rfl,hE2⟩;have hEZ:=hE0.trans (hE1.trans hE2);go_wp2_with fail;exact bodyPost_ret (v:=.tuple #[.slice (some ⟨wZ.heap.size,0,none⟩) 0 0,.slice (some ⟨wZ.heap.size+1,0,none⟩) 0 0,.bool false]) (by simp[results,Tryz.results304,go_sem]) rfl ⟨_,_,by rw[Hs.out],(hEZ.alloc _).alloc _⟩):P:=h
theorem zz35{P:Prop}(h:P:=by go_wp2_with fail;go_roundw;(case rel=>exact⟨m+1,om,om,zg,fun m' h h'=>by by_cases q:m'=m;(subst q;exact Hn.out);exact Hno1.out m' h om,hE⟩);case measure=>exact zm1):P:=h
theorem zz45{P:Prop}(h:P:=by go_roundw;(case rel=>exact⟨e+1,om,zg,fun e' h=>by by_cases q:e'=e;(subst q;exact Hn.out);exact Hno3.out e' om,hE⟩);case measure=>exact zm1):P:=h
theorem zz90{P:Prop}(h:P:=by rintro e' wr ⟨rfl,hE'⟩;replace hE:=hE.trans hE';clear hE' hbx;go_wp2_with fail;go_roundw;(case rel=>exact⟨x+1,om,zg,fun x' h=>by by_cases q:x'=x;(subst q;exact Hsx.out);exact Hno4.out x' om,hE⟩);case measure=>exact zm1):P:=h
theorem zz98{P:Prop}(h:P:=by have hel:e=ord l:=(by omega);go_wp2_with fail;go_roundw;(case rel=>exact⟨d+1,om,zg,fun d' h e' h'=>by by_cases q:d'=d;(subst q;exact Hno3.out e' om);exact Hno2.out d' om e' h',hE⟩);case measure=>exact zm1):P:=h
theorem di3(v:Value)(l:List Int)(a:Int)(w:World)(h:c9 w v l) :
 Calls Tryz.prog 304 #[.agg #[v],.int .i64 a] w (jp2 (b26 l a) w):=by
 obtain⟨wb,Hwb,hE0,hb,hg,hE,Hsz⟩:=ju3 28 h;clear h;have hbx:=hb wb hE;cases hs:j4 l a
 . have Hs:=zh (c72 (J9 hs));exact zz34
 . obtain⟨n,rfl,h1,h2,hgr⟩:=o4 hs;by_cases h0:n=0
   . subst h0;have Hs:Hid (b26 l ((0:Nat):Int)=false):=zh (c72 (G2 l));exact zz34
   . have Hs:=zh (d65 (M5 hs om));have h0':((n:Int) == 0)=false:=(by simp;omega);have Hgr:=zh hgr;have hob:=m8 hgr;have hcn:=r9 n;clear hgr h0 h1;go_in;go_wp2_with fail;rw[<-Hwb.out];refine (p7 _ _ _ (hg _ hE) Hgr).mono ?_;rintro e w1 ⟨rfl,hE1⟩;have hbx1:=hb _ hE1;go_wp2_with fail;refine (p8 _ _ _ _ (hg _ hE1) hs).mono ?_;rintro e w2 ⟨rfl,hE2⟩;go_wp2_with (first | (go_at_call 107;refine (A9 _ (h2) _).mono ?_;rintro e w' ⟨rfl,rfl⟩));have eW:=hE0.trans (hE1.trans hE2);have hb1:∀W,Ext w2 W->W.cell? ⟨w.heap.size,0,none⟩=some v:=fun W hW=>hb W (hE1.trans (hE2.trans hW));have hg1:∀W,Ext w2 W->c9 W v l:=fun W hW=>hg W (hE1.trans (hE2.trans hW));clear hb hg hbx hbx1 hE hE1 hE2 h0' hs;have hE:=er w2;go_loopw [9] (fun s wr=>∃m:Nat,1<=m∧m<=5∧s=.int .i64 m∧(∀m',1<=m'->m'<m->bxM l n m'=false)∧Ext w2 wr) (fun s _=>5 - (intOf s).toNat);(case atStart=>exact⟨1,om,om,rfl,om,hE⟩);case round =>
      clear hE;obtain⟨m,hm1,hm5,rfl,hno,hE⟩:=hrel;have Hno1:=zh hno;clear hno;have hmm0:0<=(m:Int)*(m:Int)∧(m:Int)*(m:Int)<=25:=by
       have:=Nat.mul_le_mul hm5 hm5;rw[<-Int.natCast_mul];omega
      obtain⟨hmm0,hmm1⟩:=hmm0;by_cases hlt:m*m<=cnt n
      . have hlti:(m:Int)*(m:Int)<=(cnt n:Int):=(by rw[<-Int.natCast_mul];omega);have hm4:m<=4:=by
         rcases Nat.lt_or_ge 4 m with c | c
         . have:=Nat.mul_le_mul c c;omega
         . exact c
        have Hlt:=zh hlt;clear hlt;by_cases hmd:cnt n % m=0
        . have hmod:((cnt n:Int) % (m:Int) != 0)=false:=(by rw[<-Int.natCast_emod,hmd];rfl);have hq1:=dr5 (m:=m) hcn;have hm0:((m:Int) == 0)=false:=(by simp;omega);have Hmd:=zh hmd;obtain⟨q,hq⟩:=nq (cnt n / m);have hq24:q<=24:=(by rw[hq];exact nle (Nat.div_le_self _ _) hcn);rw[<-hq] at hq1;have Hq1:=zh hq1;have Hq:=zh hq;clear hmd hq hq1;go_wp2_with fail;go_loopw [40] (fun s wr=>∃d:Nat,d<=ord l∧s=.int .i64 d∧(∀d',d'<d->∀e,e<ord l->b92 l n m d' e=false)∧Ext w2 wr) (fun s _=>ord l - (intOf s).toNat);(case atStart=>exact⟨0,om,rfl,om,hE⟩);case round =>
           clear hE;obtain⟨d,hd,rfl,hno,hE⟩:=hrel;have Hno2:=zh hno;clear hno;by_cases hltd:d<ord l
           . go_wp2_with fail;go_loopw [44] (fun s wr=>∃e:Nat,e<=ord l∧s=.int .i64 e∧(∀e',e'<e->b92 l n m d e'=false)∧Ext w2 wr) (fun s _=>ord l - (intOf s).toNat);(case atStart=>exact⟨0,om,rfl,om,hE⟩);case round =>
              clear hE;obtain⟨e,he,rfl,hno,hE⟩:=hrel;have Hno3:=zh hno;clear hno;by_cases hlte:e<ord l
              . have hbu:=fun U=>hb1 _ (hE.trans (d5 wr U));have hgr':∀W,Ext wr W->c9 W v l:=fun W hW=>hg1 W (hE.trans hW);have p1:=b16 Hgr.out (s:=0) om d m;have p2:=b16 Hgr.out (s:=0) om e q;have hB:=G9 Hgr.out (F9 l 0 d m) (F9 l 0 e q);have HB:Hid (bxS l n m d e=l7 l (F9 l 0 d m) (F9 l 0 e q)):=zh (by unfold bxS;rw[Hq.out]);have hE1:=hE;clear hE;have hE:=er wr;have d24:d<24:=om;have e24:e<24:=om;have m24:m<=24:=om;have hq1:=Hq1.out;go_wp2_with fail;(refine wl hE ?_);(repeat (go_big_quiet_step (first | (go_at_call 348;with_reducible exact Calls.lat (bj6 _ _ d m _ (hgr' _ (d5 wr _)) Hgr d24 m24)) | (go_at_call 348;with_reducible exact Calls.lat (bj6 _ _ e q _ (hgr' _ (d5 wr _)) Hgr e24 hq24)) | (go_at_call 119;with_reducible exact Calls.lat (J4 _ _ _ _ _ (hgr' _ (d5 wr _)) Hgr p1 p2)))));(refine zd ?_);(clear hE);(intro W hE);replace hE:=hE1.trans hE;rw[<-HB.out] at hB;rw[<-HB.out];clear hE1 hgr' hbu p1 p2 hq1;by_cases hc:cnt (bxS l n m d e)=cnt n
                . have hci:((cnt (bxS l n m d e):Int) != (cnt n:Int))=false:=(by rw[hc];simp);have Hc:=zh hc;clear hc;generalize hBB:bxS l n m d e=B at hB HB Hc hci ⊢;have HBB:=zh hBB;clear hBB;go_wp2_with (first | (go_at_call 107;refine (A9 _ (hB) _).mono ?_;rintro e w' ⟨rfl,rfl⟩));go_loopw [64] (fun s wr=>∃x:Nat,x<=ord l∧s=.int .i64 x∧(∀x',x'<x->¬j6 l B x'=n)∧Ext w2 wr) (fun s _=>ord l - (intOf s).toNat);(case atStart=>exact⟨0,om,rfl,om,hE⟩);case round =>
                   clear hE;obtain⟨x,hx,rfl,hno,hE⟩:=hrel;have Hno4:=zh hno;clear hno;by_cases hltx:x<ord l
                   . have hbx:=hb1 _ hE;have x24:x<24:=om;by_cases hsx:j6 l B x=n
                     . have hsi:((j6 l B x:Int) == (n:Int))=true:=(by rw[hsx];simp);have Hz:=zh (dn8 hm1 Hlt.out Hmd.out hltd hlte hltx (by rw[HBB.out];exact Hc.out) (by rw[HBB.out];exact hsx));clear hsx;go_wp2_with fail;refine (H9 _ _ _ _ _ (hg1 _ hE) Hgr hB x24).mono ?_;rintro e' wr ⟨rfl,hE'⟩;replace hE:=hE.trans hE';clear hE' hbx;have hq1:=Hq1.out;have hm0n:¬m=0:=fun e=>Nat.lt_irrefl 0 (by rw[e] at hm1;exact hm1);have hm0':¬(m:Int)=0:=fun e=>hm0n (Int.ofNat_eq_zero.1 e);have hD:=(er wr).drew;go_wp2_with fail;(first | (go_region_held3 (fun W=>Ext wr W) (exact xq) (first | fail)) | (fail "the region that returns"));(all_goals go_wp2_with fail);all_goals
                        first
                        | (refine bodyPost_ret (v:=.tuple #[.slice (some ⟨wr.heap.size,0,none⟩) 2 2,.slice (some ⟨wr.heap.size+1,0,none⟩) 2 2,.bool true]) ?_ rfl ⟨_,_,by rw[Hs.out,Hz.out],eW.trans (hE.trans xq)⟩;(simp[results,Tryz.results304,go_sem];done))
                        | (refine bodyPost_ret (v:=.tuple #[.slice (some ⟨wr.heap.size+1,0,none⟩) 2 2,.slice (some ⟨wr.heap.size,0,none⟩) 2 2,.bool true]) ?_ rfl ⟨_,_,by rw[Hs.out,Hz.out],eW.trans (hE.trans xq)⟩;(simp[results,Tryz.results304,go_sem];done))
                     . have Hsx:=zh hsx;have hsi:((j6 l B x:Int) == (n:Int))=false:=(by simp;omega);clear hsx;go_wp2_with fail;refine (H9 _ _ _ _ _ (hg1 _ hE) Hgr hB x24).mono ?_;exact zz90
                   . have hxl:x=ord l:=(by omega);have Hn:Hid (b92 l n m d e=false):=zh (dn6 fun x' h=>by rw[HBB.out];exact Hno4.out x' om);go_wp2_with fail;exact zz45
                . have hci:((cnt (bxS l n m d e):Int) != (cnt n:Int))=true:=(by simp;omega);have Hn:=zh (d67 hc);clear hc;generalize bxS l n m d e=B at hB HB hci ⊢;go_wp2_with (first | (go_at_call 107;refine (A9 _ (hB) _).mono ?_;rintro e w' ⟨rfl,rfl⟩));exact zz45
              . exact zz98
           . have hdl:d=ord l:=(by omega);have Hn:Hid (bxM l n m=false):=zh (dz0 fun d' h e' h'=>Hno2.out d' om e' h');exact zz35
        . have hmod:((cnt n:Int) % (m:Int) != 0)=true:=(by rw[<-Int.natCast_emod];simp;omega);have hm0:((m:Int) == 0)=false:=(by simp;omega);have Hn:=zh (dn7 (l:=l) hmd);clear hmd;exact zz35
      . have hlti:¬(m:Int)*(m:Int)<=(cnt n:Int):=(by rw[<-Int.natCast_mul];omega);have Hz:=zh (dz1 Hno1.out hlt);clear hlt;go_wp2_with fail;exact bodyPost_ret (v:=.tuple #[.slice (some ⟨wr.heap.size,0,none⟩) 0 0,.slice (some ⟨wr.heap.size+1,0,none⟩) 0 0,.bool false]) (by simp[results,Tryz.results304,go_sem]) rfl ⟨_,_,by rw[Hs.out,Hz.out],eW.trans ((hE.alloc _).alloc _)⟩
theorem zz52{P:Prop}(h:P:=by go_in;go_wp2_with fail;rw[<-Hwb.out];refine (l8 _ _ _ _ (hg _ hE) hs).mono ?_;rintro e wZ ⟨rfl,hE2⟩;have hEZ:=hE0.trans hE2;go_wp2_with fail;exact bodyPost_ret (v:=.tuple #[.slice (some ⟨wZ.heap.size,0,none⟩) 0 0,.slice (some ⟨wZ.heap.size+1,0,none⟩) 0 0,.bool false]) (by simp[results,Tryz.results285,go_sem]) rfl ⟨_,_,by rw[Hs.out],(hEZ.alloc _).alloc _⟩):P:=h
theorem df2(v:Value)(l:List Int)(a:Int)(w:World)(h:c9 w v l) :
 Calls Tryz.prog 285 #[.agg #[v],.int .i64 a] w (jp2 (b26 l a) w):=by
 obtain⟨wb,Hwb,hE0,hb,hg,hE,Hsz⟩:=ju3 28 h;clear h;have hbx:=hb wb hE;cases hs:j4 l a
 . have Hs:=zh (c72 (J9 hs));exact zz52
 . obtain⟨n,rfl,h1,h2,hgr⟩:=o4 hs;by_cases h0:n=0
   . subst h0;have Hs:Hid (b26 l ((0:Nat):Int)=false):=zh (c72 (G2 l));exact zz52
   . have Hs:=zh (d65 (M5 hs om));have h0':((n:Int) == 0)=false:=(by simp;omega);have Hgr:=zh hgr;have hob:=m8 hgr;have hcn:=r9 n;clear hgr h0 h1;go_in;go_wp2_with fail;rw[<-Hwb.out];refine (l8 _ _ _ _ (hg _ hE) hs).mono ?_;rintro e w1 ⟨rfl,hE1⟩;go_wp2_with (first | (go_at_call 66;refine (q8 _ (h2) _).mono ?_;rintro e w' ⟨rfl,rfl⟩));refine (o5 _ _ _ (hg _ hE1) Hgr).mono ?_;rintro e w2 ⟨rfl,hE2⟩;go_wp2_with fail;have eW:=hE0.trans (hE1.trans hE2);have hb1:∀W,Ext w2 W->W.cell? ⟨w.heap.size,0,none⟩=some v:=fun W hW=>hb W (hE1.trans (hE2.trans hW));have hg1:∀W,Ext w2 W->c9 W v l:=fun W hW=>hg W (hE1.trans (hE2.trans hW));clear hb hg hbx hE hE1 hE2 h0' hs;have hE:=er w2;go_loopw [9] (fun s wr=>∃m:Nat,1<=m∧m<=5∧s=.int .i64 m∧(∀m',1<=m'->m'<m->bxM l n m'=false)∧Ext w2 wr) (fun s _=>5 - (intOf s).toNat);(case atStart=>exact⟨1,om,om,rfl,om,hE⟩);case round =>
      clear hE;obtain⟨m,hm1,hm5,rfl,hno,hE⟩:=hrel;have Hno1:=zh hno;clear hno;have hmm0:0<=(m:Int)*(m:Int)∧(m:Int)*(m:Int)<=25:=by
       have:=Nat.mul_le_mul hm5 hm5;rw[<-Int.natCast_mul];omega
      obtain⟨hmm0,hmm1⟩:=hmm0;by_cases hlt:m*m<=cnt n
      . have hlti:(m:Int)*(m:Int)<=(cnt n:Int):=(by rw[<-Int.natCast_mul];omega);have hm4:m<=4:=by
         rcases Nat.lt_or_ge 4 m with c | c
         . have:=Nat.mul_le_mul c c;omega
         . exact c
        have Hlt:=zh hlt;clear hlt;by_cases hmd:cnt n % m=0
        . have hmod:((cnt n:Int) % (m:Int) != 0)=false:=(by rw[<-Int.natCast_emod,hmd];rfl);have hq1:=dr5 (m:=m) hcn;have hm0:((m:Int) == 0)=false:=(by simp;omega);have Hmd:=zh hmd;obtain⟨q,hq⟩:=nq (cnt n / m);have hq24:q<=24:=(by rw[hq];exact nle (Nat.div_le_self _ _) hcn);rw[<-hq] at hq1;have Hq1:=zh hq1;have Hq:=zh hq;clear hmd hq hq1;go_wp2_with fail;go_loopw [10] (fun s wr=>∃d:Nat,d<=ord l∧s=.int .i64 d∧(∀d',d'<d->∀e,e<ord l->b92 l n m d' e=false)∧Ext w2 wr) (fun s _=>ord l - (intOf s).toNat);(case atStart=>exact⟨0,om,rfl,om,hE⟩);case round =>
           clear hE;obtain⟨d,hd,rfl,hno,hE⟩:=hrel;have Hno2:=zh hno;clear hno;by_cases hltd:d<ord l
           . have hbx:=hb1 _ hE;have d24:d<24:=om;have m24:m<=24:=om;have p1:=b16 Hgr.out (s:=0) om d m;go_wp2_with fail;refine (ba8 _ _ d m _ (hg1 _ hE) Hgr d24 m24).mono ?_;rintro e0 w3 ⟨rfl,hE'⟩;replace hE:=hE.trans hE';clear hE' hbx;go_wp2_with fail;go_loopw [12] (fun s wr=>∃e:Nat,e<=ord l∧s=.int .i64 e∧(∀e',e'<e->b92 l n m d e'=false)∧Ext w2 wr) (fun s _=>ord l - (intOf s).toNat);(case atStart=>exact⟨0,om,rfl,om,hE⟩);case round =>
              clear hE;obtain⟨e,he,rfl,hno,hE⟩:=hrel;have Hno3:=zh hno;clear hno;by_cases hlte:e<ord l
              . have hbu:=fun U=>hb1 _ (hE.trans (d5 wr U));have hgr':∀W,Ext wr W->c9 W v l:=fun W hW=>hg1 W (hE.trans hW);have p2:=b16 Hgr.out (s:=0) om e q;have hB:=G9 Hgr.out (F9 l 0 d m) (F9 l 0 e q);have HB:Hid (bxS l n m d e=l7 l (F9 l 0 d m) (F9 l 0 e q)):=zh (by unfold bxS;rw[Hq.out]);have hE1:=hE;clear hE;have hE:=er wr;have e24:e<24:=om;have hq1:=Hq1.out;go_wp2_with fail;(refine wl hE ?_);(repeat (go_big_quiet_step (first | (go_at_call 333;with_reducible exact Calls.lat (ba8 _ _ e q _ (hgr' _ (d5 wr _)) Hgr e24 hq24)) | (go_at_call 49;with_reducible exact Calls.lat (D6 _ _ _ _ _ (hgr' _ (d5 wr _)) Hgr p1 p2)))));(refine zd ?_);(clear hE);(intro W hE);replace hE:=hE1.trans hE;rw[<-HB.out] at hB;rw[<-HB.out];clear hE1 hgr' hbu p2 hq1;by_cases hc:cnt (bxS l n m d e)=cnt n
                . have hci:((cnt (bxS l n m d e):Int) != (cnt n:Int))=false:=(by rw[hc];simp);have Hc:=zh hc;clear hc;generalize hBB:bxS l n m d e=B at hB HB Hc hci ⊢;have HBB:=zh hBB;clear hBB;go_wp2_with (first | (go_at_call 66;refine (q8 _ (hB) _).mono ?_;rintro e w' ⟨rfl,rfl⟩));go_loopw [14] (fun s wr=>∃x:Nat,x<=ord l∧s=.int .i64 x∧(∀x',x'<x->¬j6 l B x'=n)∧Ext w2 wr) (fun s _=>ord l - (intOf s).toNat);(case atStart=>exact⟨0,om,rfl,om,hE⟩);case round =>
                   clear hE;obtain⟨x,hx,rfl,hno,hE⟩:=hrel;have Hno4:=zh hno;clear hno;by_cases hltx:x<ord l
                   . have hbx:=hb1 _ hE;have x24:x<24:=om;by_cases hsx:j6 l B x=n
                     . have hsi:((j6 l B x:Int) == (n:Int))=true:=(by rw[hsx];simp);have Hz:=zh (dn8 hm1 Hlt.out Hmd.out hltd hlte hltx (by rw[HBB.out];exact Hc.out) (by rw[HBB.out];exact hsx));clear hsx;go_wp2_with fail;refine (F5 _ _ _ _ _ (hg1 _ hE) Hgr hB x24).mono ?_;rintro e' wr ⟨rfl,hE'⟩;replace hE:=hE.trans hE';clear hE' hbx;have hq1:=Hq1.out;have hm0n:¬m=0:=fun e=>Nat.lt_irrefl 0 (by rw[e] at hm1;exact hm1);have hm0':¬(m:Int)=0:=fun e=>hm0n (Int.ofNat_eq_zero.1 e);have hD:=(er wr).drew;go_wp2_with fail;(first | (go_region_held3 (fun W=>Ext wr W) (exact xq) (first | fail)) | (fail "the region that returns"));(all_goals go_wp2_with fail);all_goals
                        first
                        | (refine bodyPost_ret (v:=.tuple #[.slice (some ⟨wr.heap.size,0,none⟩) 2 2,.slice (some ⟨wr.heap.size+1,0,none⟩) 2 2,.bool true]) ?_ rfl ⟨_,_,by rw[Hs.out,Hz.out],eW.trans (hE.trans xq)⟩;(simp[results,Tryz.results285,go_sem];done))
                        | (refine bodyPost_ret (v:=.tuple #[.slice (some ⟨wr.heap.size+1,0,none⟩) 2 2,.slice (some ⟨wr.heap.size,0,none⟩) 2 2,.bool true]) ?_ rfl ⟨_,_,by rw[Hs.out,Hz.out],eW.trans (hE.trans xq)⟩;(simp[results,Tryz.results285,go_sem];done))
                     . have Hsx:=zh hsx;have hsi:((j6 l B x:Int) == (n:Int))=false:=(by simp;omega);clear hsx;go_wp2_with fail;refine (F5 _ _ _ _ _ (hg1 _ hE) Hgr hB x24).mono ?_;exact zz90
                   . have hxl:x=ord l:=(by omega);have Hn:Hid (b92 l n m d e=false):=zh (dn6 fun x' h=>by rw[HBB.out];exact Hno4.out x' om);go_wp2_with fail;exact zz45
                . have hci:((cnt (bxS l n m d e):Int) != (cnt n:Int))=true:=(by simp;omega);have Hn:=zh (d67 hc);clear hc;generalize bxS l n m d e=B at hB HB hci ⊢;go_wp2_with (first | (go_at_call 66;refine (q8 _ (hB) _).mono ?_;rintro e w' ⟨rfl,rfl⟩));exact zz45
              . exact zz98
           . have hdl:d=ord l:=(by omega);have Hn:Hid (bxM l n m=false):=zh (dz0 fun d' h e' h'=>Hno2.out d' om e' h');exact zz35
        . have hmod:((cnt n:Int) % (m:Int) != 0)=true:=(by rw[<-Int.natCast_emod];simp;omega);have hm0:((m:Int) == 0)=false:=(by simp;omega);have Hn:=zh (dn7 (l:=l) hmd);clear hmd;exact zz35
      . have hlti:¬(m:Int)*(m:Int)<=(cnt n:Int):=(by rw[<-Int.natCast_mul];omega);have Hz:=zh (dz1 Hno1.out hlt);clear hlt;go_wp2_with fail;exact bodyPost_ret (v:=.tuple #[.slice (some ⟨wr.heap.size,0,none⟩) 0 0,.slice (some ⟨wr.heap.size+1,0,none⟩) 0 0,.bool false]) (by simp[results,Tryz.results285,go_sem]) rfl ⟨_,_,by rw[Hs.out,Hz.out],eW.trans ((hE.alloc _).alloc _)⟩
theorem dx7(v:Value)(l:List Int)(a:Int)(w:World)(h:c9 w v l) :
 Calls Tryz.prog 219 #[.agg #[v],.int .i64 a] w fun e w'=>e=.returned (.bool (b26 l a))∧Ext w w':=by
 obtain⟨wb,Hwb,hE0,hb,hg,hE,Hsz⟩:=ju3 28 h;clear h;have hbx:=hb wb hE;go_in;go_wp2_with fail;rw[<-Hwb.out];refine (di3 _ _ _ _ (hg _ hE)).mono ?_;rintro e w1 ⟨p,q,rfl,hE1⟩;exact zz110
theorem c00(v:Value)(l:List Int)(a:Int)(w:World)(h:c9 w v l){c:Bool}(hc:b26 l a=c) :
 Calls Tryz.prog 219 #[.agg #[v],.int .i64 a] w fun e w'=>e=.returned (.bool c)∧Ext w w':=by subst hc;exact dx7 v l a w h
theorem dw8(v:Value)(l:List Int)(a:Int)(w:World)(h:c9 w v l) :
 Calls Tryz.prog 188 #[.agg #[v],.int .i64 a] w fun e w'=>e=.returned (.bool (b26 l a))∧Ext w w':=by
 obtain⟨wb,Hwb,hE0,hb,hg,hE,Hsz⟩:=ju3 28 h;clear h;have hbx:=hb wb hE;go_in;go_wp2_with fail;rw[<-Hwb.out];refine (df2 _ _ _ _ (hg _ hE)).mono ?_;rintro e w1 ⟨p,q,rfl,hE1⟩;exact zz110
theorem bx7(v:Value)(l:List Int)(a:Int)(w:World)(h:c9 w v l){c:Bool}(hc:b26 l a=c) :
 Calls Tryz.prog 188 #[.agg #[v],.int .i64 a] w fun e w'=>e=.returned (.bool c)∧Ext w w':=by subst hc;exact dw8 v l a w h
end Go.Zz
