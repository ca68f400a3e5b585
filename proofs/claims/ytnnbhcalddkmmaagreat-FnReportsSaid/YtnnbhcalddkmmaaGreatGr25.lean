/- Davenport's bound: the reference. -/
import Derived.Test.YtnnbhcalddkmmaaGreatGr24
set_option linter.unusedSimpArgs false
set_option linter.unusedVariables false
set_option linter.unnecessarySimpa false
set_option maxHeartbeats 4000000
set_option maxRecDepth 100000
namespace Go.Zz
open Go.RowKit Go.Proofs
theorem bz3(v:Value)(l:List Int)(w:World)(h:c9 w v l)(Hgr:Hid (j1 l=true)) :
 Calls Tryz.prog 57 #[.agg #[v]] w fun e w'=>e=.returned (.int .i64 (V3 dvT (Q0 l):Nat))∧Ext w w':=by
 obtain⟨wb,Hwb,hE0,hb,hg,hE,Hsz⟩:=ju3 28 h;clear h;have hbx:=hb wb hE;obtain⟨M0,hM0⟩:∃M,Q0 l=M:=⟨_,rfl⟩;have Hl:Hid (l=b9 M0):=zh (by rw[<-hM0];exact (cz3 Hgr.out).symm);have Hck:Hid (bd6 dvT M0=true):=zh (by rw[<-hM0];exact do8 Hgr.out);have hn3:M0.length<=3:=by rw[<-hM0];simpa[Q0] using C6 Hgr.out
 rw[hM0];clear hM0;go_in;go_wp2_with fail;rw[<-Hwb.out];go_wp2_with (first | (go_at_call 42;refine (A3 _ _ _ (hg _ hE)).mono ?_;rintro e w1 ⟨rfl,hE1⟩;have hb1:=hb _ ((hE.trans hE1).alloc (.cells #[] 3));have hg1:=hg _ (hE.trans hE1);have hgr:=Hgr.out;have hll:=C6 hgr;have hO0:=m7 (TI:=3) (n:=0) om (er w1) [] rfl;have hEa:=(er w1).alloc (.cells #[] 3);have hIa:=hg1.ext hEa) | (at_builtin;refine I2 slI rfl _ _ rfl w1 _ _ _ _ _ hO0 hIa hEa (by simp only[List.length_nil];omega) rfl rfl ?_;intro v2 w2 hO hE2;simp only[List.nil_append] at hO;obtain⟨ao,c,rfl,-⟩:=hO.shape));have hlm:l.length=M0.length:=by rw[Hl.out,j2]
 have hD0:Dv w1 ao M0.length c M0 w2:=⟨by rw[<-hlm,<-Hl.out];exact hO,rfl,hE2⟩;rw[hlm];have hW1:=hE0.trans (hE.trans hE1);clear hO hb1 hg1 hb hg hbx hgr;go_wp2_with fail;clear hE hE1 hE2;go_loopw [4] (fun iv wr=>∃i:Nat,i<=M0.length∧iv=.int .i64 i∧Dv w1 ao M0.length c (Q5 dvT M0.length M0 i) wr) (fun iv _=>M0.length - (intOf iv).toNat);case atStart=>exact⟨0,om,rfl,hD0⟩
 case round =>
  clear hD0;rename World=>wo;obtain⟨i,hi,rfl,hDo⟩:=hrel;by_cases hlt:i<M0.length
  . have hltI:(i:Int)<(M0.length:Int):=(by omega);have Hin:=zh (fun m (hm:m<M0.length - i)=>d87 Hck.out hlt hm);go_wp2_with fail;go_loopw [5] (fun kv wr=>∃m k:Nat,k=i+1+m∧k<=M0.length∧kv=.int .i64 k∧Dv w1 ao M0.length c (b94 dvT i (Q5 dvT M0.length M0 i) m) wr) (fun kv _=>M0.length - (intOf kv).toNat);(case atStart=>exact⟨0,i+1,rfl,om,zg,hDo⟩);case round =>
     clear hDo;rename World=>wr;obtain⟨m,k,hkm,hk,rfl,hD⟩:=hrel;have Hkm:=zh hkm;have hik:i<k:=om;clear hkm;by_cases hlk:k<M0.length
     . have hlkI:(k:Int)<(M0.length:Int):=(by omega);obtain⟨hML,hMb⟩:=Hin.out m (by have:=Hkm.out;omega);have Hnx:Hid (b94 dvT i (Q5 dvT M0.length M0 i) (m+1)=dvT (b94 dvT i (Q5 dvT M0.length M0 i) m) i k):=zh (by rw[Hkm.out];rfl);obtain⟨M,hM⟩:=nq (b94 dvT i (Q5 dvT M0.length M0 i) m);rw[<-hM] at hD hML hMb Hnx;clear hM;have hbi:=hMb i hlt;have hbk:=hMb k hlk;obtain⟨g,rfl⟩:=hD.at hlt;have hix:=b65 g M0.length c;have hDd:=hD.drew;obtain⟨ci,-,hgb⟩:=hDd.cell hlt;have ck:=(hDd.cell hlk).1;replace Hnx:=zh (Hnx.out.trans (show dvT M i k=(M.set i (Nat.gcd (d8 M i) (d8 M k))).set k (d8 M i / Nat.gcd (d8 M i) (d8 M k)*d8 M k) from rfl));obtain⟨a,ha⟩:=nq (d8 M i);obtain⟨b,hb⟩:=nq (d8 M k);rw[<-ha] at ci hbi Hnx;rw[<-hb] at ck hbk Hnx;have HA:=zh ha;have HB:=zh hb;clear ha hb;have hG0:0<Nat.gcd a b:=Nat.gcd_pos_of_pos_left _ om;have hGa:Nat.gcd a b<=a:=Nat.gcd_le_left _ om;clear hMb;have cG:=br6 a b om om;obtain⟨G,hG⟩:=nq (Nat.gcd a b);rw[<-hG] at hG0 hGa Hnx;rw[<-hG] at cG;clear hG;go_wp2_with fail;refine wp_region_held_drew (S:=(fun W=>W.cell? ⟨g,i,none⟩=some (.int .i64 (a:Int))∧W.cell? ⟨g,k,none⟩=some (.int .i64 (b:Int)))) (by kernel_rfl) (by exact⟨ci,ck⟩) (fun hHeld=>?_);refine hxn 0 ?_;refine hxn 1 ?_;refine hxn 2 ?_;refine hxn 3 ?_;refine hxn 4 ?_;refine hxn 5 ?_;refine hxn 6 ?_;refine hxn 7 ?_;refine hxt 8 (h:=fun K hK=>?_);go_simp;(go_at_call 177;(with_reducible refine Calls.mono (cG _) ?_);rintro e w3 ⟨rfl,hE3⟩);have hD3:=hDd.ext2 hE3;have di:=(hD3.cell hlt).1;have dk:=(hD3.cell hlk).1;rw[<-HA.out] at di;rw[<-HB.out] at dk;refine hxo hK (by exact⟨di,dk⟩) (fun hHeld=>?_);clear hK K;refine hxn 9 ?_;refine wpAnyH_done (by kernel_rfl) ?_ _;go_wp2_with fail;have d1:(a:Int) / (G:Int)*(b:Int)=((a / G*b:Nat):Int):=(by rw[Int.natCast_mul,Int.natCast_ediv]);have hq:a / G<=24:=nle (Nat.div_le_self _ _) om;have hq2:a / G*b<=576:=Nat.mul_le_mul hq hbk.2;have d2:((a / G:Nat):Int)=(a:Int) / (G:Int):=Int.natCast_ediv _ _;have hqI:0<=(a:Int) / (G:Int)∧(a:Int) / (G:Int)<=24:=⟨by rw[<-d2];exact Int.natCast_nonneg _,by rw[<-d2];exact Int.ofNat_le.2 hq⟩;have hmm:0<=(a:Int) / (G:Int)*(b:Int)∧(a:Int) / (G:Int)*(b:Int)<=576:=⟨by rw[d1];exact Int.natCast_nonneg _,by rw[d1];exact Int.ofNat_le.2 hq2⟩;have hne2:((G:Int) == 0)=false:=(by simp;omega);have hpos:0<(G:Int):=om;have hD5:=hD3.set hgb i G;have hD6:Dv w1 (some ⟨g,0,none⟩) M0.length c ((M.set i G).set k (a / G*b)) ((w3.setCell ⟨g,i,none⟩ (.int .i64 (G:Int))).setCell ⟨g,k,none⟩ (.int .i64 ((a:Int) / (G:Int)*(b:Int)))):=(by rw[d1];exact hD5.set hgb k _);rw[<-Hnx.out] at hD6;have fi:=(hD3.cell hlt).2.1;have fk:=(hD3.cell hlk).2.1;have ei:=(hD3.drew.cell hlt).1;have ek:=(hD3.drew.cell hlk).1;rw[<-HA.out] at ei;rw[<-HB.out] at ek;have hw1:IntKind.i64.wrap ((a:Int) / (G:Int))=(a:Int) / (G:Int):=IntWalk.i64_in _ om;have hw2:IntKind.i64.wrap ((a:Int) / (G:Int)*(b:Int))=(a:Int) / (G:Int)*(b:Int):=IntWalk.i64_in _ om;clear d1 d2 hq hq2 ci ck;go_wp2_with fail;refine wp_region_held_drew (S:=(fun W=>W.cell? ⟨g,i,none⟩=some (.int .i64 (a:Int))∧W.cell? ⟨g,k,none⟩=some (.int .i64 (b:Int)))) (by kernel_rfl) (by exact⟨ei,ek⟩) (fun hHeld=>?_);refine hxn 0 ?_;refine hxn 1 ?_;refine hxn 2 ?_;refine hxn 3 ?_;refine hxn 4 ?_;refine hxn 5 ?_;refine hxn 6 ?_;refine hxn 7 ?_;refine hxn 8 ?_;refine hxn 9 ?_;refine hxn 10 ?_;refine hxn 11 ?_;refine wpAnyH_done (by kernel_rfl) ?_ _;go_wp2_with fail;go_roundw;(case rel=>exact⟨m+1,k+1,by have:=Hkm.out;omega,om,zg,hD6.drew⟩);case measure=>exact zm1
     . exact zz94
  . have hin:i=M0.length:=(by omega);have hltI:¬(i:Int)<(M0.length:Int):=om;rw[hin] at hDo hltI ⊢;clear hin hi;obtain⟨hML,hMb⟩:=c13 Hck.out;obtain⟨M,hM⟩:=nq (Q5 dvT M0.length M0 M0.length);have Hend:Hid (V3 dvT M0=Z6 M M0.length):=zh (by rw[hM];rfl);rw[<-hM] at hDo hML hMb;clear hM;have Hsum:=zh (bv6 M (by rw[hML];exact hMb));have Hb:=zh hMb;clear hMb;go_wp2_with fail;go_loop [8,9] (fun sv jv=>∃j:Nat,j<=M0.length∧jv=.int .i64 j∧sv=.int .i64 (Z6 M j:Nat)) (fun _ jv=>M0.length - (intOf jv).toNat);(case atStart=>exact⟨0,om,rfl,rfl⟩);case round =>
     obtain⟨j,hj,rfl,rfl⟩:=hrel;by_cases hlj:j<M0.length
     . exact zz40
     . exact zz108
theorem zz129{P:Prop}(h:P:=by exact bodyPost_ret (v:=.tuple #[.int .i64 0,.bool false]) (by simp[results,Tryz.results347,go_sem]) rfl ⟨by rw[Hn.out.1,Hn.out.2],hE0.trans (hE.trans hE1)⟩):P:=h
theorem dx8(v:Value)(l:List Int)(vX:Value)(X:List Int)(w:World)(h:c9 w v l)(hX:c9 w vX X) :
 Calls Tryz.prog 347 #[.agg #[v],vX] w fun e w'=>e=.returned (.tuple #[.int .i64 (soV l X),.bool (soB l X)])∧Ext w w':=by
 obtain⟨wb,Hwb,hE0,hb,hg,hE,Hsz⟩:=ju3 28 h;clear h;obtain⟨ao,c,adr,rfl,hlen,hadr,hcell⟩:=hX.op;have hix:=j3 (c:=c) elI szI hadr;clear hadr hX;go_in;go_wp2_with fail;rw[<-Hwb.out];go_loopw [6,11] (fun av iv wr=>∃(k a:Nat),k<=X.length∧iv=.int .i64 k∧av=.int .i64 a∧a<2 ^ 24∧Ext wb wr∧Hid (soG l X 0=soG l (X.drop k) a)) (fun _ iv _=>X.length - (intOf iv).toNat);case atStart=>exact⟨0,0,om,rfl,rfl,by decide,hE,zh rfl⟩
 case round =>
  clear hE;obtain⟨k,a,hk,rfl,rfl,ha,hE,H⟩:=hrel;have kb:=hb _ hE;by_cases hlt:k<X.length
  . have hd:=bv5 X k hlt;have hck:=hcell k wr hlt (hE0.trans hE);cases hh:N3 l (nth X k)
    . have Hn:Hid (soB l X=false∧soV l X=0):=zh (co9 (by rw[H.out,hd,ds2 hh]));have cI:=cs7 v l (nth X k) wr (hg _ hE);rw[hh] at cI;clear hd hh;go_wp2_with (go_at_call 231;refine cI.mono ?_;rintro e w1 ⟨rfl,hE1⟩);exact zz129
    . have cI:=cs7 v l (nth X k) wr (hg _ hE);rw[hh] at cI;obtain⟨n,hn,hno,hgr⟩:=b33 hh;have hob:=m8 hgr;rw[hn] at hd hh cI hck;have Hx:=zh hn;have hs1:=p6 (n:=n) om;have hor:=F6 (o:=a) (z:=n) ha om;cases ht:a.testBit n
      . have hin:=T1 a n ha om (b:=false);have Hn:Hid (soG l X 0=soG l (X.drop (k+1)) (a ||| 2 ^ n)):=zh (by rw[H.out,hd,j59 hh ht]);have hab:a ||| 2 ^ n<2 ^ 24:=Nat.or_lt_two_pow ha (Nat.pow_lt_pow_right om om)
        have ci:=fun W=>hin W ht;clear hd hh ht hgr hn hin;have hcx:∀W,Ext wr W->W.cell? (adr k)=some (.int .i64 (n:Int)):=fun W hW=>hW.cell hck;go_wp2_with (first | (go_at_call 231;refine cI.mono ?_;rintro e w1 ⟨rfl,hE1⟩) | (go_at_call 225;refine (ci _).mono ?_;rintro e w' ⟨rfl,rfl⟩));go_roundw;(case rel=>exact⟨k+1,a ||| 2 ^ n,om,zg,rfl,hab,hE.trans hE1,Hn⟩);case measure=>exact zm1
      . have hin:=T1 a n ha om (b:=true);have Hn:Hid (soB l X=false∧soV l X=0):=zh (co9 (by rw[H.out,hd,ds1 ht]));have ci:=fun W=>hin W ht;clear hd hh ht hgr hn hin;go_wp2_with (first | (go_at_call 231;refine cI.mono ?_;rintro e w1 ⟨rfl,hE1⟩) | (go_at_call 225;refine (ci _).mono ?_;rintro e w' ⟨rfl,rfl⟩));exact zz129
  . have hkl:k=X.length:=(by omega);have Hn:Hid (soB l X=j1 l∧soV l X=(a:Int)):=zh (ds3 (by rw[H.out,hkl,List.drop_length];rfl));clear hkl;have cG:=A1 v l wr (hg _ hE);go_wp2_with (refine cG.mono ?_;rintro e w1 ⟨rfl,hE1⟩);exact bodyPost_ret (v:=.tuple #[.int .i64 a,.bool (j1 l)]) (by simp[results,Tryz.results347,go_sem]) rfl ⟨by rw[Hn.out.1,Hn.out.2],hE0.trans (hE.trans hE1)⟩
theorem jc6{l:List Int}(h:U4 l)(h0:0<ord l)(x:Nat):∀n,Q9 l x n<ord l
 | 0=>h0
 | n+1=>F2 l h _ _
theorem cb1{l:List Int}(h:U4 l){x:Nat}(hx:x<ord l):m6 l x 0=x:=by rw[D4];exact A7 l h x hx
theorem jc5{l:List Int}(h:U4 l){x:Nat}(hx:x<ord l):Q9 l x 1=x:=A7 l h x hx
def lcT(l:List Int)(I P:List Nat):Nat->Nat
 | 0=>0
 | k+1=>m6 l (lcT l I P k) (Q9 l (d8 I k) (d8 P k))
def exV(l:List Int)(I:List Nat)(x:Nat):Nat:=lcT l I (plP l x l.length) l.length
def b11(l:List Int)(I:List Nat):List Nat:=(List.range (ord l)).map (exV l I)
theorem d93(l:List Int)(I:List Nat):(b11 l I).length=ord l:=by simp[b11]
theorem cm5{l:List Int}(h:j1 l=true)(I P:List Nat)(k:Nat):lcT l I P k<ord l:=by
 have:=m8 h;cases k with
 | zero=>show 0<ord l;omega
 | succ k=>exact F2 l (m9 h) _ _
theorem cf0{l:List Int}(I:List Nat){x:Nat}(hx:x<ord l):d8 (b11 l I) x=exV l I x:=by
 simp[d8,b11,List.getD,hx]
theorem dp2{l:List Int}(h:j1 l=true)(I:List Nat):∀y∈b11 l I,y<ord l:=by
 intro y hy;obtain⟨x,-,rfl⟩:=List.mem_map.1 hy;exact cm5 h _ _ _
theorem cw8(l:List Int)(I:List Nat){x:Nat}:(List.range (x+1)).map (exV l I)=(List.range x).map (exV l I)++[exV l I x]:=by
 rw[List.range_succ,List.map_append];rfl
def hmE(l:List Int)(F:List Nat)(x y:Nat):Bool:=decide (d8 F (m6 l x y)=m6 l (d8 F x) (d8 F y))
def bb6(l:List Int)(F:List Nat):Bool:=(List.range (ord l)).all fun x=>(List.range (ord l)).all fun y=>hmE l F x y
theorem bw0{l:List Int}{F:List Nat}:bb6 l F=true↔∀x y,x<ord l->y<ord l->hmE l F x y=true:=by
 unfold bb6;simp only[List.all_eq_true,List.mem_range];constructor
 . intro H x y h1 h2;exact H x h1 y h2
 . intro H x h1 y h2;exact H x y h1 h2
theorem dq5{l:List Int}{F:List Nat}{x y:Nat}(h1:x<ord l)(h2:y<ord l)(e:hmE l F x y=false):bb6 l F=false:=by
 rw[<-Bool.not_eq_true,bw0];intro H;rw[H x y h1 h2] at e;cases e
def Z0(l:List Int)(F:List Nat):Bool:=soB l (b9 F)&&(decide (soV l (b9 F)=(l9 l:Int))&&bb6 l F)
def c94(m k:Nat):List Nat:=(List.replicate m 0).set k 1
def br3(l:List Int):Bool:=(List.range l.length).all fun k=>(List.range (ord l)).any fun e=>decide (plP l e l.length=c94 l.length k)&&decide (Q9 l e (nth l k).toNat=0)
theorem gc0:br3 []=true:=by decide +kernel
theorem gc1:((List.range 10).all fun a=>decide (a<2) || br3 [(a:Int)])=true:=by decide +kernel
theorem gc2:((List.range 10).all fun a=>decide (a<2) || (List.range 10).all fun b=>decide (b<2) || (decide (9<a*b) || br3 [(a:Int),(b:Int)]))=true:=by decide +kernel
theorem gc3:((List.range 10).all fun a=>decide (a<2) || (List.range 10).all fun b=>decide (b<2) || (decide (4<a*b) || (List.range 10).all fun c=>decide (c<2) || (decide (9<a*b*c) || br3 [(a:Int),(b:Int),(c:Int)])))=true:=by decide +kernel
theorem b15{p:Prop}[Decidable p]{b:Bool}(h:(decide p || b)=true)(hn:¬p):b=true:=by
 rw[decide_eq_false hn] at h;simpa using h
theorem rgA{p:Nat->Bool}(h:(List.range 10).all p=true){a:Nat}(ha:a<=9):p a=true:=List.all_eq_true.1 h a (List.mem_range.2 om)
theorem jl2{l:List Int}(h:j1 l=true)(h9:ord l<=9):br3 l=true:=by
 have hc:=bc4 h;obtain⟨h3,hn,hp⟩:=(U8 l).1 h;have hp:A0 l<=9:=om;clear hc;match l,h3,hn,hp with
 | [],_,_,_=>exact gc0
 | [a],_,hn,hp =>
  have h0:2<=a∧a<=24:=hn 0 zm;have hp:a<=9:=by simpa[A0] using hp
  have:=b15 (rgA gc1 (a:=a.toNat) om) om;rwa [show ((a.toNat:Nat):Int)=a by omega] at this
 | [a,b],_,hn,hp =>
  have h0:2<=a∧a<=24:=hn 0 zm;have h1:2<=b∧b<=24:=hn 1 zm;have hpr:a*b<=9:=by simpa[A0] using hp
  have e:((a.toNat*b.toNat:Nat):Int)=a*b:=by rw[Int.natCast_mul];congr 1<;>omega
  have q1:a*2<=a*b:=Int.mul_le_mul_of_nonneg_left h1.1 om;have q2:2*b<=a*b:=Int.mul_le_mul_of_nonneg_right h0.1 om;have:=b15 (b15 (rgA (b15 (rgA gc2 (a:=a.toNat) om) om) (a:=b.toNat) om) om) om;rwa [show ((a.toNat:Nat):Int)=a by omega,show ((b.toNat:Nat):Int)=b by omega] at this
 | [a,b,c],_,hn,hp =>
  have h0:2<=a∧a<=24:=hn 0 zm;have h1:2<=b∧b<=24:=hn 1 zm;have h2:2<=c∧c<=24:=hn 2 zm;have hpr:a*b*c<=9:=by rw[Int.mul_assoc];simpa[A0] using hp
  have e:((a.toNat*b.toNat*c.toNat:Nat):Int)=a*b*c:=by rw[Int.natCast_mul,Int.natCast_mul];congr 1;congr 1<;>omega;omega
  have e2:((a.toNat*b.toNat:Nat):Int)=a*b:=by rw[Int.natCast_mul];congr 1<;>omega
  have q0:2*2<=a*b:=Int.mul_le_mul h0.1 h1.1 om om;have q1:a*b*2<=a*b*c:=Int.mul_le_mul_of_nonneg_left h2.1 om;have q2:4*c<=a*b*c:=Int.mul_le_mul_of_nonneg_right om om;have q3:a*2<=a*b:=Int.mul_le_mul_of_nonneg_left h1.1 om;have q4:2*b<=a*b:=Int.mul_le_mul_of_nonneg_right h0.1 om;have u:=rgA (b15 (rgA gc3 (a:=a.toNat) om) om) (a:=b.toNat) om;have:=b15 (b15 (rgA (b15 (b15 u om) om) (a:=c.toNat) om) om) om;rwa [show ((a.toNat:Nat):Int)=a by omega,show ((b.toNat:Nat):Int)=b by omega,show ((c.toNat:Nat):Int)=c by omega] at this
 | _ :: _ :: _ :: _ :: _,h3,_,_=>simp at h3
theorem j76{m k j:Nat}(hj:j<m):d8 (c94 m k) j=if k=j then 1 else 0:=by
 unfold d8 c94;rw[List.getD_eq_getElem?_getD,List.getElem?_set];by_cases e:k=j
 . subst e;simp[hj]
 . simp[e,hj]
theorem jb6{l:List Int}(h:j1 l=true){I:List Nat}{m k:Nat}(hk:k<m)(hI:d8 I k<ord l) :
 ∀j,j<=m->lcT l I (c94 m k) j=if k<j then d8 I k else 0:=by
 have ho:=m9 h;have h1:=m8 h;intro j;induction j with
 | zero=>intro _;rfl
 | succ j ih =>
  intro hj;show m6 l (lcT l I (c94 m k) j) (Q9 l (d8 I j) (d8 (c94 m k) j))=_;rw[ih om,j76 om];by_cases e:k=j
  . subst e;rw[if_neg om,if_pos rfl,if_pos om,jc5 ho hI];exact A7 l ho _ hI
  . rw[if_neg e];by_cases e2:k<j
    . rw[if_pos e2,if_pos om];exact cb1 ho hI
    . rw[if_neg e2,if_neg om];exact A7 l ho 0 om
def Z7(l:List Int)(I:List Nat):Nat->Bool
 | 0=>true
 | k+1=>Z7 l I k&&decide (Q9 l (d8 I k) (nth l k).toNat=0)
theorem cx2{l:List Int}{I:List Nat}:∀{m:Nat},Z7 l I m=true↔∀k,k<m->Q9 l (d8 I k) (nth l k).toNat=0
 | 0=>by simp[Z7]
 | m+1=>by
  unfold Z7
  rw[Bool.and_eq_true,cx2,decide_eq_true_eq]
  constructor
  . rintro⟨h1,h2⟩ k hk
    by_cases e:k=m
    . rw[e];exact h2
    . exact h1 k om
  . intro H;exact⟨fun k hk=>H k om,H m om⟩
theorem j90{l:List Int}(h:j1 l=true)(h9:ord l<=9){I:List Nat}(hI:∀k,k<l.length->d8 I k<ord l)(ha:Z0 l (b11 l I)=true):Z7 l I l.length=true:=by
 have ho:=m9 h;have h1:=m8 h;have hh:bb6 l (b11 l I)=true:=by unfold Z0 at ha;simp only[Bool.and_eq_true] at ha;exact ha.2.2
 have hom:∀x y,x<ord l->y<ord l->exV l I (m6 l x y)=m6 l (exV l I x) (exV l I y):=fun x y hx hy=>by
  have:=bw0.1 hh x y hx hy
  unfold hmE at this
  rw[decide_eq_true_eq,cf0 I (F2 l ho x y),cf0 I hx,cf0 I hy] at this
  exact this
 have hlt:∀x,exV l I x<ord l:=fun x=>cm5 h _ _ _;have h0:exV l I 0=0:=by
  have:=hom 0 0 om om;rw[A7 l ho 0 om] at this;refine Y9 ho (hlt 0) (show 0<ord l by omega) ?_ (x:=exV l I 0);rw[<-this,cb1 ho (hlt 0)]
 have hm:∀e n,e<ord l->exV l I (Q9 l e n)=Q9 l (exV l I e) n:=by
  intro e n he;induction n with
  | zero=>exact h0
  | succ n ih =>
   show exV l I (m6 l (Q9 l e n) e)=m6 l (Q9 l (exV l I e) n) (exV l I e);rw[hom _ _ (jc6 ho om e n) he,ih]
 rw[cx2];intro k hk;have g:=jl2 h h9;unfold br3 at g;rw[List.all_eq_true] at g;have g2:=g k (List.mem_range.2 hk);rw[List.any_eq_true] at g2;obtain⟨e,he,g3⟩:=g2;rw[Bool.and_eq_true,decide_eq_true_eq,decide_eq_true_eq] at g3;have he:=List.mem_range.1 he;have hv:exV l I e=d8 I k:=by
  unfold exV;rw[g3.1,jb6 h hk (hI k hk) _ (Nat.le_refl _),if_pos hk]
 have:=hm e (nth l k).toNat he;rw[g3.2,h0,hv] at this;exact this.symm
def M9(f:Nat->Nat):Nat->Nat
 | 0=>0
 | k+1=>M9 f k+f k
theorem bg2{f g:Nat->Nat}{n:Nat}(h:∀k,k<n->f k=g k):M9 f n=M9 g n:=by
 induction n with
 | zero=>rfl
 | succ n ih=>show M9 f n+f n=M9 g n+g n;rw[ih (fun k hk=>h k om),h n om]
theorem dg9(f:Nat->Nat)(a:Nat):∀b,M9 f (a+b)=M9 f a+M9 (fun c=>f (a+c)) b
 | 0=>rfl
 | b+1=>by show M9 f (a+b)+f (a+b)=M9 f a+(M9 (fun c=>f (a+c)) b+f (a+b));rw[dg9 f a b];omega
theorem dh0(f:Nat->Nat)(M:Nat):∀n,M9 f (M*n)=M9 (fun x=>M9 (fun c=>f (c+M*x)) M) n
 | 0=>rfl
 | n+1=>by
  rw[Nat.mul_succ,dg9,dh0 f M n]
  show _=M9 _ n+M9 (fun c=>f (c+M*n)) M
  congr 1
  exact bg2 fun c _=>by rw[Nat.add_comm]
theorem cu6{f:Nat->Nat}{b:Nat}(h:∀k,f k<=b):∀n,M9 f n<=n*b
 | 0=>by simp[M9]
 | n+1=>by have:=cu6 h n;have:=h n;rw[Nat.succ_mul];show M9 f n+f n<=_;omega
theorem d06(f:Nat->Nat)(a:Nat):∀d,M9 f a<=M9 f (a+d)
 | 0=>Nat.le_refl _
 | d+1=>nle (d06 f a d) (Nat.le_add_right _ _)
def L0(l:List Int):Nat->List Nat->Nat
 | 0,X=>if Z0 l (b11 l X) then 1 else 0
 | r+1,X=>M9 (fun x=>L0 l r (X++[x])) (ord l)
def bi4(n c:Nat):Nat->Nat
 | 0=>c
 | i+1=>bi4 n c i / n
def V7(n c:Nat):Nat->List Nat
 | 0=>[]
 | i+1=>(bi4 n c i % n) :: V7 n c i
theorem ce9(n c:Nat):∀i,(V7 n c i).length=i
 | 0=>rfl
 | i+1=>by simp[V7,ce9 n c i]
theorem cr6{n:Nat}(h:0<n)(c:Nat):∀i,∀x∈V7 n c i,x<n
 | 0=>by simp[V7]
 | i+1=>by
  intro x hx
  rw[V7,List.mem_cons] at hx
  rcases hx with rfl | hx
  . exact Nat.mod_lt _ h
  . exact cr6 h c i x hx
theorem bq6(n c:Nat):∀i,bi4 n c i=c / n ^ i
 | 0=>by simp[bi4]
 | i+1=>by rw[bi4,bq6 n c i,Nat.div_div_eq_div_mul,Nat.pow_succ]
theorem jj8(n c i:Nat):bi4 n c i<=c:=by rw[bq6];exact Nat.div_le_self _ _
theorem do6{n:Nat}(h:0<n)(c x r:Nat):∀i,i<=r->V7 n (c+n ^ r*x) i=V7 n c i
 | 0,_=>rfl
 | i+1,hi=>by
  rw[V7,V7,do6 h c x r i om,bq6,bq6]
  congr 1
  obtain⟨d,rfl⟩:∃d,r=i+1+d:=⟨r - (i+1),om⟩
  rw[show n ^ (i+1+d)*x=n ^ i*(n*(n ^ d*x)) by rw[Nat.pow_add,Nat.pow_succ];simp[Nat.mul_assoc],Nat.add_mul_div_left _ _ (Nat.pow_pos h),Nat.add_mul_mod_self_left]
theorem jj9{n c x r:Nat}(hc:c<n ^ r)(hx:x<n):V7 n (c+n ^ r*x) (r+1)=x :: V7 n c r:=by
 have h:0<n:=om;rw[V7,do6 h c x r r (Nat.le_refl _),bq6,Nat.add_mul_div_left _ _ (Nat.pow_pos h),Nat.div_eq_of_lt hc,Nat.zero_add,Nat.mod_eq_of_lt hx]
def b29(l:List Int)(I:List Nat):Nat:=if Z7 l I l.length&&Z0 l (b11 l I) then 1 else 0
def b54(l:List Int)(K:Nat):Nat:=M9 (fun c=>b29 l (V7 (ord l) c l.length)) K
theorem d59(l:List Int):∀r X,L0 l r X=M9 (fun c=>if Z0 l (b11 l (X++V7 (ord l) c r)) then 1 else 0) (ord l ^ r)
 | 0,X=>by simp[L0,M9,V7]
 | r+1,X=>by
  rw[Nat.pow_succ,dh0]
  show M9 (fun x=>L0 l r (X++[x])) (ord l)=_
  refine bg2 fun x hx=>?_
  rw[d59 l r]
  refine bg2 fun c hc=>?_
  rw[jj9 hc hx,List.append_assoc];rfl
theorem j91{l:List Int}(h:j1 l=true)(h9:ord l<=9):L0 l l.length []=b54 l (ord l ^ l.length):=by
 rw[d59,b54];have h1:=m8 h;refine bg2 fun c _=>?_;rw[List.nil_append,b29];cases ha:Z0 l (b11 l (V7 (ord l) c l.length))
 . simp
 . rw[j90 h h9 (fun k hk=>cr6 om c _ _ (o6 (by rw[ce9];exact hk))) ha];rfl
theorem cr0(l:List Int):∀r X,L0 l r X<=ord l ^ r
 | 0,X=>by unfold L0;split<;>simp
 | r+1,X=>by
  rw[Nat.pow_succ,Nat.mul_comm]
  exact cu6 (fun x=>cr0 l r (X++[x])) (ord l)
theorem cq9(l:List Int)(K:Nat):b54 l K<=K:=by
 have:=cu6 (f:=fun c=>b29 l (V7 (ord l) c l.length)) (b:=1) (fun c=>by unfold b29;split<;>omega) K;rw[Nat.mul_one] at this;exact this
theorem zz89{P:Prop}(h:P:=by have hil:i=F.length:=(by omega);have Hk:Hid (bb6 l F=true):=zh (bw0.2 fun x y hx hy=>H1.out x (by rw[hil,Hlen.out];exact hx) y (by rw[Hlen.out];exact hy));go_wp2_with fail;go_ret;exact⟨j5 (by rw[Ha.out,Hk.out]),hE0.trans hE⟩):P:=h
theorem zz95{P:Prop}(h:P:=by have hjl:j=F.length:=(by omega);go_wp2_with fail;go_roundw;(case rel=>exact⟨i+1,om,zg,hE,zh fun i' h1 j' h2=>by by_cases e:i'=i;(subst e;exact H2.out j' om);exact H1.out i' om j' h2⟩);case measure=>exact zm1):P:=h
theorem zz96{P:Prop}(h:P:=by (refine zd ?_);(clear hE);(intro W hE);go_wp2_with fail;go_roundw;(case rel=>exact⟨j+1,om,zg,hEb.trans hE,zh fun j' h1=>by by_cases e:j'=j;(subst e;exact Hk.out);exact H2.out j' om⟩);case measure=>exact zm1):P:=h
theorem zz161{P:Prop}(h:P:=by (refine zd ?_);(clear hE);(intro W hE);go_wp2_with fail;go_ret;exact⟨j5 (by rw[Ha.out,Hk.out]),hE0.trans (hEb.trans hE)⟩):P:=h
theorem bz0(v:Value)(l:List Int)(vF:Value)(F:List Nat)(w:World)(h:c9 w v l)(hF:c9 w vF (b9 F))(Hgr:Hid (j1 l=true))(hlen:F.length=ord l)(hlt:∀y∈F,y<ord l) :
 Calls Tryz.prog 301 #[.agg #[v],vF] w fun e w'=>e=.returned (.bool (Z0 l F))∧Ext w w':=by
 obtain⟨wb,Hwb,hE0,hb,hg,hE,Hsz⟩:=ju3 28 h;clear h;have HFx:=zh (fun W (hW:Ext wb W)=>hF.ext (hE0.trans hW));obtain⟨aoF,cF,adrF,rfl,hadrF,hcellF⟩:=hF.nats;have cSo:=fun W (hW:Ext wb W)=>dx8 v l _ (b9 F) W (hg W hW) (HFx.out W hW);have hixF:=j3 (c:=cF) elI szI hadrF;clear hadrF hF HFx;have ob:=m8 Hgr.out;have Hadd:Hid (∀x y,m6 l x y<F.length):=zh fun x y=>by rw[hlen];exact F2 l (m9 Hgr.out) x y
 have Hlt:Hid (∀i,i<F.length->d8 F i<24):=zh fun i hi=>by have:=hlt _ (o6 hi);omega
 have hl24:F.length<=24:=om;have Ha0:Hid (Z0 l F=(soB l (b9 F)&&(decide (soV l (b9 F)=(l9 l:Int))&&bb6 l F))):=zh rfl;have Hlen:=zh hlen;obtain⟨S,hS⟩:=nq (soV l (b9 F));obtain⟨o,ho⟩:=nq (soB l (b9 F));simp only[<-hS,<-ho] at cSo Ha0;clear hS ho hlt;have cFu:=fun W (hW:Ext wb W)=>G1 v l W (hg W hW) Hgr;obtain⟨N,hN⟩:=nq (l9 l);simp only[<-hN] at cFu Ha0;clear hN hlen;cases o
 . have Ha:Hid (Z0 l F=false):=zh (by rw[Ha0.out];rfl);clear Ha0;go_in;go_wp2_with fail;rw[<-Hwb.out];go_wp2_with (go_at_call 347;refine (cSo _ hE).mono ?_;rintro e w1 ⟨rfl,hE1⟩);go_ret;exact⟨j5 Ha.out.symm,hE0.trans hE1⟩
 . cases hq:decide (S=(N:Int))
   . have Ha:Hid (Z0 l F=false):=zh (by rw[Ha0.out,hq];rfl);have hqn:(S != (N:Int))=true:=(by rw[bne_iff_ne];exact of_decide_eq_false hq);clear Ha0 hq;go_in;go_wp2_with fail;rw[<-Hwb.out];go_wp2_with (first | (go_at_call 347;refine (cSo _ hE).mono ?_;rintro e w1 ⟨rfl,hE1⟩;have hb1:=hb _ hE1) | (go_at_call 215;refine (cFu _ hE1).mono ?_;rintro e w2 ⟨rfl,hE2⟩));go_ret;exact⟨j5 Ha.out.symm,hE0.trans (hE1.trans hE2)⟩
   . have Ha:Hid (Z0 l F=bb6 l F):=zh (by rw[Ha0.out,hq];rfl);have hqn:(S != (N:Int))=false:=(by have:=of_decide_eq_true hq;rw[this];simp);clear Ha0 hq;go_in;go_wp2_with fail;rw[<-Hwb.out];go_wp2_with (first | (go_at_call 347;refine (cSo _ hE).mono ?_;rintro e w1 ⟨rfl,hE1⟩;have hb1:=hb _ hE1) | (go_at_call 215;refine (cFu _ hE1).mono ?_;rintro e w2 ⟨rfl,hE2⟩));replace hE:=hE1.trans hE2;clear hE1 hE2 hb1 cSo cFu hqn;go_loopw [25] (fun iv wr=>∃i:Nat,i<=F.length∧iv=.int .i64 i∧Ext wb wr∧Hid (∀i',i'<i->∀j,j<F.length->hmE l F i' j=true)) (fun iv _=>F.length - (intOf iv).toNat);(case atStart=>exact⟨0,om,rfl,hE,zh om⟩);case round =>
      clear hE;obtain⟨i,hi,rfl,hE,H1⟩:=hrel;by_cases hit:i<F.length
      . go_wp2_with fail;go_loopw [30] (fun jv wq=>∃j:Nat,j<=F.length∧jv=.int .i64 j∧Ext wb wq∧Hid (∀j',j'<j->hmE l F i j'=true)) (fun jv _=>F.length - (intOf jv).toNat);(case atStart=>exact⟨0,om,rfl,hE,zh om⟩);case round =>
         clear hE;obtain⟨j,hj,rfl,hE,H2⟩:=hrel;by_cases hjt:j<F.length
         . have hst:m6 l i j<F.length:=Hadd.out i j;have cS:=fun U=>hcellF (m6 l i j) _ hst (hE0.trans (hE.trans (d5 wr U)));have cI:=fun U=>hcellF i _ hit (hE0.trans (hE.trans (d5 wr U)));have cJ:=fun U=>hcellF j _ hjt (hE0.trans (hE.trans (d5 wr U)));have hbU:=fun U=>hb _ (hE.trans (d5 wr U));have tI:=Hlt.out i hit;have tJ:=Hlt.out j hjt;have a1:=fun U=>R5 v l i j _ (hg _ (hE.trans (d5 wr U))) Hgr om om;have a2:=fun U=>R5 v l (d8 F i) (d8 F j) _ (hg _ (hE.trans (d5 wr U))) Hgr om om;have he:(((d8 F (m6 l i j):Nat):Int) != ((m6 l (d8 F i) (d8 F j):Nat):Int)) = !hmE l F i j:=by
            unfold hmE;rw[Bool.eq_iff_iff,bne_iff_ne];simp;omega
           have hEb:=hE;clear hE;have hE:=er wr;cases eh:hmE l F i j
           . have Hk:Hid (bb6 l F=false):=zh (dq5 (Hlen.out ▸ hit) (Hlen.out ▸ hjt) eh);rw[eh] at he;clear eh;go_wp2_with fail;(refine wl hE ?_);(repeat (go_big_quiet_step (first | (go_at_call 224;first | with_reducible exact Calls.lat (a1 _) | with_reducible exact Calls.lat (a2 _)))));exact zz161
           . have Hk:=zh eh;rw[eh] at he;clear eh;go_wp2_with fail;(refine wl hE ?_);(repeat (go_big_quiet_step (first | (go_at_call 224;first | with_reducible exact Calls.lat (a1 _) | with_reducible exact Calls.lat (a2 _)))));exact zz96
         . exact zz95
      . exact zz89
theorem bx6(v:Value)(l:List Int)(vF:Value)(F:List Nat)(w:World)(h:c9 w v l)(hF:c9 w vF (b9 F))(Hgr:Hid (j1 l=true))(hlen:F.length=ord l)(hlt:∀y∈F,y<ord l) :
 Calls Tryz.prog 281 #[.agg #[v],vF] w fun e w'=>e=.returned (.bool (Z0 l F))∧Ext w w':=by
 obtain⟨wb,Hwb,hE0,hb,hg,hE,Hsz⟩:=ju3 28 h;clear h;have HFx:=zh (fun W (hW:Ext wb W)=>hF.ext (hE0.trans hW));obtain⟨aoF,cF,adrF,rfl,hadrF,hcellF⟩:=hF.nats;have cSo:=fun W (hW:Ext wb W)=>dx0 v l _ (b9 F) W (hg W hW) (HFx.out W hW);have hixF:=j3 (c:=cF) elI szI hadrF;clear hadrF hF HFx;have ob:=m8 Hgr.out;have Hadd:Hid (∀x y,m6 l x y<F.length):=zh fun x y=>by rw[hlen];exact F2 l (m9 Hgr.out) x y
 have Hlt:Hid (∀i,i<F.length->d8 F i<24):=zh fun i hi=>by have:=hlt _ (o6 hi);omega
 have hl24:F.length<=24:=om;have Ha0:Hid (Z0 l F=(soB l (b9 F)&&(decide (soV l (b9 F)=(l9 l:Int))&&bb6 l F))):=zh rfl;have Hlen:=zh hlen;obtain⟨S,hS⟩:=nq (soV l (b9 F));obtain⟨o,ho⟩:=nq (soB l (b9 F));simp only[<-hS,<-ho] at cSo Ha0;clear hS ho hlt;have cO:=fun W (hW:Ext wb W)=>o5 v l W (hg W hW) Hgr;have hne:(((F.length:Nat):Int) != ((ord l:Nat):Int))=false:=by rw[hlen];simp
 have hs1:=p6 (n:=ord l) om;obtain⟨N,hN⟩:=nq (pw (ord l));have hNb:1<=N∧N<=16777216:=by rw[hN];exact⟨T3 _,b51 om⟩
 have hNf:((l9 l:Nat):Int)=(N:Int) - 1:=by unfold l9;rw[<-hN];omega
 rw[<-hN] at hs1;rw[hNf] at Ha0;clear hN hNf hlen;cases o
 . have Ha:Hid (Z0 l F=false):=zh (by rw[Ha0.out];rfl);clear Ha0;go_in;go_wp2_with fail;rw[<-Hwb.out];go_wp2_with (go_at_call 332;refine (cSo _ hE).mono ?_;rintro e w1 ⟨rfl,hE1⟩);go_ret;exact⟨j5 Ha.out.symm,hE0.trans hE1⟩
 . cases hq:decide (S=(N:Int) - 1)
   . have Ha:Hid (Z0 l F=false):=zh (by rw[Ha0.out,hq];rfl);have hqn:(S != (N:Int) - 1)=true:=(by rw[bne_iff_ne];exact of_decide_eq_false hq);clear Ha0 hq;go_in;go_wp2_with fail;rw[<-Hwb.out];go_wp2_with (first | (go_at_call 332;refine (cSo _ hE).mono ?_;rintro e w1 ⟨rfl,hE1⟩;have hb1:=hb _ hE1;have hEx:=hE1) | (go_at_call 43;refine (cO _ hEx).mono ?_;rintro e w2 ⟨rfl,hE2⟩;replace hEx:=hEx.trans hE2;have hb2:=hb _ hEx));go_ret;exact⟨j5 Ha.out.symm,hE0.trans hEx⟩
   . have Ha:Hid (Z0 l F=bb6 l F):=zh (by rw[Ha0.out,hq];rfl);have hqn:(S != (N:Int) - 1)=false:=(by have:=of_decide_eq_true hq;rw[this];simp);clear Ha0 hq;go_in;go_wp2_with fail;rw[<-Hwb.out];go_wp2_with (first | (go_at_call 332;refine (cSo _ hE).mono ?_;rintro e w1 ⟨rfl,hE1⟩;have hb1:=hb _ hE1;have hEx:=hE1) | (go_at_call 43;refine (cO _ hEx).mono ?_;rintro e w2 ⟨rfl,hE2⟩;replace hEx:=hEx.trans hE2;have hb2:=hb _ hEx));clear hE;have hE:=hEx;clear hEx hb1 hb2 cSo cO hqn hne;go_loopw [7] (fun iv wr=>∃i:Nat,i<=F.length∧iv=.int .i64 i∧Ext wb wr∧Hid (∀i',i'<i->∀j,j<F.length->hmE l F i' j=true)) (fun iv _=>F.length - (intOf iv).toNat);(case atStart=>exact⟨0,om,rfl,hE,zh om⟩);case round =>
      clear hE;obtain⟨i,hi,rfl,hE,H1⟩:=hrel;by_cases hit:i<F.length
      . go_wp2_with fail;go_loopw [8] (fun jv wq=>∃j:Nat,j<=F.length∧jv=.int .i64 j∧Ext wb wq∧Hid (∀j',j'<j->hmE l F i j'=true)) (fun jv _=>F.length - (intOf jv).toNat);(case atStart=>exact⟨0,om,rfl,hE,zh om⟩);case round =>
         clear hE;obtain⟨j,hj,rfl,hE,H2⟩:=hrel;by_cases hjt:j<F.length
         . have hst:m6 l i j<F.length:=Hadd.out i j;have cS:=fun U=>hcellF (m6 l i j) _ hst (hE0.trans (hE.trans (d5 wr U)));have cI:=fun U=>hcellF i _ hit (hE0.trans (hE.trans (d5 wr U)));have cJ:=fun U=>hcellF j _ hjt (hE0.trans (hE.trans (d5 wr U)));have hbU:=fun U=>hb _ (hE.trans (d5 wr U));have tI:=Hlt.out i hit;have tJ:=Hlt.out j hjt;have a1:=fun U=>G5 v l i j _ (hg _ (hE.trans (d5 wr U))) Hgr om om;have a2:=fun U=>G5 v l (d8 F i) (d8 F j) _ (hg _ (hE.trans (d5 wr U))) Hgr om om;have he:(((d8 F (m6 l i j):Nat):Int) != ((m6 l (d8 F i) (d8 F j):Nat):Int)) = !hmE l F i j:=by
            unfold hmE;rw[Bool.eq_iff_iff,bne_iff_ne];simp;omega
           have hEb:=hE;clear hE;have hE:=er wr;cases eh:hmE l F i j
           . have Hk:Hid (bb6 l F=false):=zh (dq5 (Hlen.out ▸ hit) (Hlen.out ▸ hjt) eh);rw[eh] at he;clear eh;go_wp2_with fail;(refine wl hE ?_);(repeat (go_big_quiet_step (first | (go_at_call 190;first | with_reducible exact Calls.lat (a1 _) | with_reducible exact Calls.lat (a2 _)))));exact zz161
           . have Hk:=zh eh;rw[eh] at he;clear eh;go_wp2_with fail;(refine wl hE ?_);(repeat (go_big_quiet_step (first | (go_at_call 190;first | with_reducible exact Calls.lat (a1 _) | with_reducible exact Calls.lat (a2 _)))));exact zz96
         . exact zz95
      . exact zz89
theorem j69(v:Value)(l:List Int)(x n:Nat)(w:World)(h:c9 w v l)(Hgr:Hid (j1 l=true))(hx:x<16777216)(hn:n<=1000000) :
 Calls Tryz.prog 300 #[.agg #[v],.int .i64 x,.int .i64 n] w fun e w'=>e=.returned (.int .i64 (Q9 l x n:Nat))∧Ext w w':=by
 obtain⟨wb,Hwb,hE0,hb,hg,hE,Hsz⟩:=ju3 28 h;clear h;have hn0:¬((n:Int)<0):=om;go_in;go_wp2_with fail;rw[<-Hwb.out];go_loopw [7,16] (fun sv iv wr=>∃i:Nat,i<=n∧iv=.int .i64 i∧sv=.int .i64 (Q9 l x i:Nat)∧Ext wb wr) (fun _ iv _=>n - (intOf iv).toNat);case atStart=>exact⟨0,om,rfl,rfl,hE⟩
 case round =>
  clear hE;obtain⟨i,hi,rfl,rfl,hE⟩:=hrel;by_cases hlt:i<n
  . have hltI:(i:Int)<(n:Int):=(by omega);have hbx:=hb _ hE;have hm:=br8 Hgr.out x i;have hs:Hid (Q9 l x (i+1)=m6 l (Q9 l x i) x):=zh rfl;go_wp2_with (first | (go_at_call 224;refine cx (R5 _ _ _ _ _ (hg _ hE) (Hgr) (om) (hx)) hE ?_;clear hE;intro w' hE));go_roundw;(case rel=>exact⟨i+1,om,zg,by rw[hs.out],hE⟩);case measure=>exact zm1
  . have hin:i=n:=(by omega);have hltI:¬(i:Int)<(n:Int):=om;rw[hin] at hltI ⊢;clear hin hi hlt;exact zz69
theorem zz162{P:Prop}(h:P:=by go_roundw;(case rel=>exact⟨k+1,om,zg,by rw[HR.out,D.out],by rw[HP.out,D5,Mo.out];exact hO1,hE1⟩);case measure=>exact zm1):P:=h
theorem dw4(v:Value)(l:List Int)(x:Nat)(w:World)(h:c9 w v l)(Hgr:Hid (j1 l=true))(hx:x<16777216) :
 Calls Tryz.prog 299 #[.agg #[v],.int .i64 x] w fun e w'=>∃v',e=.returned v'∧Own 3 w w' v' (b9 (plP l x l.length))∧Ext w w':=by
 have hop:=h.op;have hE0:=(er w).alloc (.cells #[v] 28);have hE:=er (w.alloc (.cells #[v] 28));have hb:=j0 w v 28;have hg:∀W,Ext (w.alloc (.cells #[v] 28)) W->c9 W v l:=fun W hW=>h.ext (hE0.trans hW);clear h;obtain⟨ao,c,adr,rfl,hlen,hadr,hcell⟩:=hop;have hix:=j3 (c:=c) elI szI hadr;clear hadr;have hl3:=C6 Hgr.out;have Hc:=zh hcell;clear hcell;have hO:=m7 (TI:=3) (n:=0) om hE0 [] rfl;have hE1:=hE.alloc (.cells #[] 3);have hE2:=hE0.alloc (.cells #[] 3);have hb1:=hb _ hE1;go_in;go_wp2_with fail;go_loopw [5,1,12] (fun s5 s1 iv wr=>∃k:Nat,k<=l.length∧iv=.int .i64 k∧s1=.int .i64 (plR l x k:Nat)∧Own 3 w wr s5 (b9 (plP l x k))∧Ext w wr) (fun _ _ iv _=>l.length - (intOf iv).toNat);case atStart=>exact⟨0,om,rfl,rfl,by simpa[plP,b9] using hO,hE2⟩
 case round =>
  clear hO hE hE1 hE2 hb1;obtain⟨k,hk,rfl,rfl,hO,hE⟩:=hrel;by_cases hlt:k<l.length
  . have hltI:(k:Int)<(l.length:Int):=(by omega);have hck:=Hc.out k _ hlt hE;have hn:=E3 Hgr.out hlt;have hr:=cn7 l x k;have HR:Hid (plR l x (k+1)=plR l x k / (nth l k).toNat):=zh rfl;have HP:Hid (plP l x (k+1)=plP l x k++[plR l x k % (nth l k).toNat]):=zh rfl;have hpl:=bh2 l x k;obtain⟨o,ho⟩:∃o:Nat,nth l k=(o:Int):=⟨(nth l k).toNat,om⟩;rw[ho] at hck hn;rw[ho,Int.toNat_natCast] at HR HP;clear ho;obtain⟨r,hrr⟩:=nq (plR l x k);rw[<-hrr] at hr HR HP ⊢;clear hrr;have hne2:((o:Int) == 0)=false:=(by simp;omega);have hpos:0<(o:Int):=om;have D:=zh (Int.natCast_ediv r o);have Mo:=zh (Int.natCast_emod r o);have m1:r % o<16777216:=(by have:=Nat.mod_le r o;omega);have m2:r / o<16777216:=(by have:=Nat.div_le_self r o;omega);have hmb:(0:Int)<=(r:Int) % (o:Int)∧(r:Int) % (o:Int)<16777216:=(by rw[<-Mo.out];exact⟨Int.natCast_nonneg _,Int.ofNat_lt.2 m1⟩);have hdb:(0:Int)<=(r:Int) / (o:Int)∧(r:Int) / (o:Int)<16777216:=(by rw[<-D.out];exact⟨Int.natCast_nonneg _,Int.ofNat_lt.2 m2⟩);clear m1 m2;go_wp2_with (at_builtin;refine A6 slI rfl _ _ rfl w _ _ _ _ hO hE (by rw[j2];omega) rfl rfl ?_;intro v1 w1 hO1 hE1);exact zz162
  . have hkl:k=l.length:=(by omega);exact zz180
theorem bs8(v:Value)(l:List Int)(x n:Nat)(w:World)(h:c9 w v l)(Hgr:Hid (j1 l=true))(hx:N3 l (x:Int)=true)(hx2:x<16777216)(hn:n<=100) :
 Calls Tryz.prog 279 #[.agg #[v],.int .i64 x,.int .i64 n] w fun e w'=>e=.returned (.int .i64 (Q9 l x n:Nat))∧Ext w w':=by
 obtain⟨wb,Hwb,hE0,hb,hg,hE,Hsz⟩:=ju3 28 h;clear h;have hn0:¬((n:Int)<0):=om;have hin:inB (n:Int) (-100) 100=true:=by unfold inB;simp;omega
 have hbx:=hb _ hE;go_in;go_wp2_with fail;rw[<-Hwb.out];go_wp2_with (first | (go_at_call 243;refine cx (N4 _ _ _ _ (hg _ hE) (hx)) hE ?_;clear hE;intro w' hE) | (go_at_call 164;refine (Q8 _ _ _ _).mono ?_;rintro e w' ⟨rfl,rfl⟩));go_loopw [7,8] (fun sv iv wr=>∃i:Nat,i<=n∧iv=.int .i64 i∧sv=.int .i64 (Q9 l x i:Nat)∧Ext wb wr) (fun _ iv _=>n - (intOf iv).toNat);case atStart=>exact⟨0,om,rfl,rfl,hE⟩
 case round =>
  clear hE hbx;obtain⟨i,hi,rfl,rfl,hE⟩:=hrel;by_cases hlt:i<n
  . have hltI:(i:Int)<(n:Int):=(by omega);have hbx:=hb _ hE;have hm:=br8 Hgr.out x i;have hs:Hid (Q9 l x (i+1)=m6 l (Q9 l x i) x):=zh rfl;go_wp2_with (first | (go_at_call 190;refine cx (G5 _ _ _ _ _ (hg _ hE) (Hgr) (om) (hx2)) hE ?_;clear hE;intro w' hE));go_roundw;(case rel=>exact⟨i+1,om,zg,by rw[hs.out],hE⟩);case measure=>exact zm1
  . have hinn:i=n:=(by omega);have hltI:¬(i:Int)<(n:Int):=om;rw[hinn] at hltI ⊢;clear hinn hi hlt;exact zz69
theorem d35(v:Value)(l:List Int)(x:Nat)(w:World)(h:c9 w v l)(Hgr:Hid (j1 l=true))(hx:x<ord l) :
 Calls Tryz.prog 331 #[.agg #[v],.int .i64 x] w fun e w'=>∃v',e=.returned v'∧Own 3 w w' v' (b9 (plP l x l.length))∧Ext w w':=by
 have hop:=h.op;have hE0:=(er w).alloc (.cells #[v] 28);have hE:=er (w.alloc (.cells #[v] 28));have hb:=j0 w v 28;have hg:∀W,Ext (w.alloc (.cells #[v] 28)) W->c9 W v l:=fun W hW=>h.ext (hE0.trans hW);clear h;obtain⟨ao,c,adr,rfl,hlen,hadr,hcell⟩:=hop;have hix:=j3 (c:=c) elI szI hadr;clear hadr;have hl3:=C6 Hgr.out;have hob:=m8 Hgr.out;have Hhas:=zh (fun y (hy:y<=x)=>c86 Hgr.out (show y<ord l by omega));have Hc:=zh hcell;clear hcell;have hO:=m7 (TI:=3) (n:=0) om hE [] rfl;have hE1:=hE.alloc (.cells #[] 3);have hE2:=hE0.alloc (.cells #[] 3);have hb1:=hb _ hE1;go_in;go_wp2_with fail;go_loopw [5,1,6] (fun s5 s1 iv wr=>∃k:Nat,k<=l.length∧iv=.int .i64 k∧s1=.int .i64 (plR l x k:Nat)∧Own 3 (w.alloc (.cells #[.slice ao l.length c] 28)) wr s5 (b9 (plP l x k))∧Ext (w.alloc (.cells #[.slice ao l.length c] 28)) wr) (fun _ _ iv _=>l.length - (intOf iv).toNat);case atStart=>exact⟨0,om,rfl,rfl,by simpa[plP,b9] using hO,hE1⟩
 case round =>
  clear hO hE hE1 hE2 hb1;obtain⟨k,hk,rfl,rfl,hO,hE⟩:=hrel;have hbr:=hb _ hE;by_cases hlt:k<l.length
  . have hltI:(k:Int)<(l.length:Int):=(by omega);have hck:=Hc.out k _ hlt (hE0.trans hE);have hn:=E3 Hgr.out hlt;have hr:=cn7 l x k;have cI:=N4 _ l (plR l x k) _ (hg _ hE) (Hhas.out _ hr);have HR:Hid (plR l x (k+1)=plR l x k / (nth l k).toNat):=zh rfl;have HP:Hid (plP l x (k+1)=plP l x k++[plR l x k % (nth l k).toNat]):=zh rfl;have hpl:=bh2 l x k;obtain⟨o,ho⟩:∃o:Nat,nth l k=(o:Int):=⟨(nth l k).toNat,om⟩;rw[ho] at hck hn;have HcK:=zh (fun W (hW:Ext w W)=>(Hc.out k W hlt hW).trans (congrArg (fun z=>some (Value.int .i64 z)) ho));rw[ho,Int.toNat_natCast] at HR HP;clear ho;obtain⟨r,hrr⟩:=nq (plR l x k);rw[<-hrr] at hr HR HP cI ⊢;clear hrr;have hne2:((o:Int) == 0)=false:=(by simp;omega);have hpos:0<(o:Int):=om;have D:=zh (Int.natCast_ediv r o);have Mo:=zh (Int.natCast_emod r o);have m1:r % o<16777216:=(by have:=Nat.mod_le r o;omega);have m2:r / o<16777216:=(by have:=Nat.div_le_self r o;omega);have hmb:(0:Int)<=(r:Int) % (o:Int)∧(r:Int) % (o:Int)<16777216:=(by rw[<-Mo.out];exact⟨Int.natCast_nonneg _,Int.ofNat_lt.2 m1⟩);have hdb:(0:Int)<=(r:Int) / (o:Int)∧(r:Int) / (o:Int)<16777216:=(by rw[<-D.out];exact⟨Int.natCast_nonneg _,Int.ofNat_lt.2 m2⟩);clear m1 m2;go_wp2_with (first | (go_at_call 243;refine cI.mono ?_;rintro e w2 ⟨rfl,hE2⟩;have hO2:=hO.ext hE2;have hEw:=hE.trans hE2;have hb2:=hb _ hEw;have hb3:=hb _ (hEw.alloc (.cells #[.int .i64 ((r:Int) % (o:Int))] 3));have hck2:=HcK.out _ (hE0.trans hEw)) | (at_builtin;refine A6 slI rfl _ _ rfl (w.alloc (.cells #[.slice ao l.length c] 28)) _ _ _ _ hO2 hEw (by rw[j2];omega) rfl rfl ?_;intro v1 w1 hO1 hE1;have hb4:=hb _ hE1;have hck4:=HcK.out _ (hE0.trans hE1)));exact zz162
  . have hkl:k=l.length:=(by omega);subst hkl;exact zz86
theorem zz138{P:Prop}(h:P:=by (refine zd ?_);(clear hE);(intro W hE);go_wp2_with fail;go_roundw;(case rel=>exact⟨i+1,om,zg,by rw[Hn.out],hEb.trans hE⟩);case measure=>exact zm1):P:=h
theorem zz184{P:Prop}(h:P:=by go_roundw;(case rel=>exact⟨x+1,om,zg,by rw[Hs.out,D5];exact hO1,hE1⟩);case measure=>exact zm1):P:=h
theorem dl0(v:Value)(l:List Int)(vI:Value)(I:List Nat)(w:World)(h:c9 w v l)(hI:c9 w vI (b9 I))(Hgr:Hid (j1 l=true))(hIl:I.length=l.length)(hIo:∀y∈I,y<ord l) :
 Calls Tryz.prog 280 #[.agg #[v],vI] w fun e w'=>∃v',e=.returned v'∧Own 3 w w' v' (b9 (b11 l I))∧Ext w w':=by
 obtain⟨aoI,cI,adrI,rfl,hadrI,hcellI⟩:=hI.nats;have hixI:=j3 (c:=cI) elI szI hadrI;clear hadrI hI;obtain⟨wb,Hwb,hE0,hb,hg,hE,Hsz⟩:=ju3 28 h;clear h;obtain⟨wc,hwc⟩:=nq (wb.alloc (.cells #[] 3));have hO:Own 3 wb wc (.slice (some ⟨wb.heap.size,0,none⟩) 0 0) []:=by rw[hwc];exact m7 om hE [] rfl
 replace hE:Ext wb wc:=by rw[hwc];exact hE.alloc _
 have Hsz2:Hid (wb.heap.size+1=wc.heap.size):=zh (by rw[hwc];simp[go_sem]);have Hwc:=zh hwc;clear hwc;have hob:=m8 Hgr.out;have hl3:=C6 Hgr.out;have HI:=zh (fun i (hi:i<I.length)=>hIo _ (o6 hi));have HL:=zh hIl;have Hhas:=zh (fun y (hy:y<ord l)=>c86 Hgr.out hy);have Hx:Hid (b11 l I=(List.range (ord l)).map (exV l I)):=zh rfl;clear hIo hIl;go_in;go_wp2_with fail;rw[<-Hwb.out,<-Hwc.out];rw[Hsz.out];try rw[Hsz2.out]
 go_loopw [5,6] (fun sv sx wr=>∃x:Nat,x<=ord l∧sx=.int .i64 x∧Own 3 wb wr sv (b9 ((List.range x).map (exV l I)))∧Ext wb wr) (fun _ sx _=>ord l - (intOf sx).toNat);case atStart=>exact⟨0,om,rfl,hO,hE⟩
 case round =>
  clear hE hO;obtain⟨x,hx,rfl,hO,hE⟩:=hrel;have hbx:=hb _ hE;have hAl:(b9 ((List.range x).map (exV l I))).length<17592186044416:=by rw[j2,List.length_map,List.length_range];omega
  have cO:=fun W (hW:Ext wb W)=>o5 v l W (hg W hW) Hgr;by_cases hlt:x<ord l
  . have hltI:(x:Int)<(ord l:Int):=(by omega);have hPl:=bh2 l x l.length;have HPx:=zh (fun i (hi:i<l.length)=>cn6 l x hi);have Hv:Hid (exV l I x=lcT l I (plP l x l.length) l.length):=zh rfl;have cP:=fun W (hW:Ext wb W)=>d35 v l x W (hg W hW) Hgr hlt;obtain⟨P,hP⟩:=nq (plP l x l.length);rw[<-hP] at hPl Hv;simp only[<-hP] at cP HPx;have HPl:=zh hPl;clear hP hPl;have Hs:Hid ((List.range (x+1)).map (exV l I)=(List.range x).map (exV l I)++[exV l I x]):=zh (cw8 l I);obtain⟨A,hA⟩:=nq ((List.range x).map (exV l I));rw[<-hA] at hO hAl Hs;clear hA;go_wp2_with (first | (go_at_call 43;refine (cO _ hE).mono ?_;rintro e w1 ⟨rfl,hE1⟩;have hE01:=hE.trans hE1;have hb1:=hb _ hE01) | (go_at_call 331;refine (cP _ hE01).mono ?_;rintro e w2 ⟨vp,rfl,hOp,hE2⟩;obtain⟨aoP,cP2,adrP,rfl,hadrP,hcellP⟩:=hOp.ints.nats;have hixP:=j3 (c:=cP2) elI szI hadrP;clear hadrP));have hE02:=hE01.trans hE2;have hO2:=hO.ext (hE1.trans hE2);clear hE hE01 hO hbx hb1 hOp hE1 hE2;have hEs:=er w2;go_loopw [8,9] (fun sz si wq=>∃i:Nat,i<=l.length∧si=.int .i64 i∧sz=.int .i64 (lcT l I P i:Nat)∧Ext w2 wq) (fun _ si _=>P.length - (intOf si).toNat);(case atStart=>exact⟨0,om,rfl,rfl,hEs⟩);case round =>
     clear hEs;obtain⟨i,hi,rfl,rfl,hEs⟩:=hrel;by_cases hiP:i<P.length
     . have hitI:(i:Int)<(P.length:Int):=(by omega);have hit:i<l.length:=(by have:=HPl.out;omega);have hiI:i<I.length:=(by have:=HL.out;omega);have kI:=fun U=>hcellI i _ hiI (hE0.trans (hE02.trans (hEs.trans (d5 wr U))));have kP:=fun U=>hcellP i _ hiP (hEs.trans (d5 wr U));have kb:=fun U=>hb _ (hE02.trans (hEs.trans (d5 wr U)));have hIi:=HI.out i hiI;have hPi:=HPx.out i hit;have hT:=cm5 Hgr.out I P i;have hM:=br8 Hgr.out (d8 I i) (d8 P i);have m1:=fun U=>bs8 v l (d8 I i) (d8 P i) _ (hg _ (hE02.trans (hEs.trans (d5 wr U)))) Hgr (Hhas.out _ hIi) om om;have a1:=fun U=>G5 v l (lcT l I P i) (Q9 l (d8 I i) (d8 P i)) _ (hg _ (hE02.trans (hEs.trans (d5 wr U)))) Hgr om om;have Hn:Hid (lcT l I P (i+1)=m6 l (lcT l I P i) (Q9 l (d8 I i) (d8 P i))):=zh rfl;have hEb:=hEs;clear hEs;have hE:=er wr;go_wp2_with fail;(refine wl hE ?_);(repeat (go_big_quiet_step (first | (go_at_call 279;with_reducible exact Calls.lat (m1 _)) | (go_at_call 190;with_reducible exact Calls.lat (a1 _)))));exact zz138
     . have hil:i=l.length:=(by have:=HPl.out;omega);have hitI:¬(i:Int)<(P.length:Int):=om;have hO3:=hO2.ext hEs;have hE3:=hE02.trans hEs;have HitI:=zh hitI;clear hitI hiP;rw[hil,<-Hv.out];rw[hil] at HitI;have hitI:=HitI.out;clear hil hi;obtain⟨z,hz⟩:=nq (exV l I x);rw[<-hz] at Hs ⊢;clear hz;go_wp2_with (at_builtin;refine A6 slI rfl _ _ rfl wb _ _ _ _ hO3 hE3 hAl rfl rfl ?_;intro v1 w1 hO1 hE1);exact zz184
  . have hltI:¬(x:Int)<(ord l:Int):=(by omega);have hxl:x=ord l:=om;rw[hxl,<-Hx.out] at hO;go_wp2_with (go_at_call 43;refine (cO _ hE).mono ?_;rintro e w1 ⟨rfl,hE1⟩);go_ret;exact⟨_,rfl,(hO.ext hE1).mono hE0,hE0.trans (hE.trans hE1)⟩
end Go.Zz
