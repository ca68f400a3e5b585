/- Numbers out of texts: ParseInt of both. -/
import Derived.Test.YtnnbhcalddkmmaaGreatGr11
import Derived.Laws.DeepStrings4
import Derived.Deep.DeepCutAuto
import Derived.Test.YtnnbhcalddkmmaaGreatGr9
import Derived.Test.YtnnbhcalddkmmaaGreatGr6
import Derived.Test.YtnnbhcalddkmmaaGreatGr4
import Derived.Test.YtnnbhcalddkmmaaGreatGr3
import Derived.Test.YtnnbhcalddkmmaaGreatGr7
namespace Go.Zz
open Go.RowKit Go.Proofs
set_option maxHeartbeats 1000000
set_option maxRecDepth 4000
theorem dz1{s:ByteArray}(h:bt s 0=45):atB s=1:=if_pos h
theorem dz2{s:ByteArray}(h:¬bt s 0=45):atB s=0:=if_neg h
theorem dg3(s:ByteArray)(h:s.size=0):s=⟨#[]⟩:=by
 apply ByteArray.ext;exact Array.eq_empty_of_size_eq_zero h
theorem bq8(s:ByteArray)(w:World)(hs:s.size≤100000) :
 Calls Tryz.prog 267 #[.string s] w fun e w'=>e=.returned (.tuple #[.int .i64 (pI s).1,.bool (pI s).2])∧Ext w w':=by
 have Hat:=Lib.hid (fun h=>dz1 (s:=s) h);have Han:=Lib.hid (fun h=>dz2 (s:=s) h);go_enter Tryz.func267,Tryz.ntmps267;go_upto_region 2 with fail;go_cut [14] (fun s14 wx=>s14=.bool (decide (bt s 0=45))∧w=wx);case first =>
  by_cases h0:0<s.size
  · obtain⟨b,hb⟩:∃b,b=bt s 0:=⟨_,rfl⟩;have hx:(s[0]'h0).toNat=b:=(by rw[bd3,hb]);have h0i:(0:Int)<s.size:=(by omega);by_cases hc:b=45
    · have hd:decide (bt s 0=45)=true:=decide_eq_true (by rw[←hb];exact hc);have Hd:=Lib.hid hd;clear hb hd;subst hc;go_wp2_with fail;go_meet;exact⟨by rw[Hd.out],rfl⟩
    · have Hd:=Lib.hid (show decide (bt s 0=45)=false from decide_eq_false (by rw[←hb];exact hc));have hcb:((b:Int) == 45)=false:=(by rw[beq_eq_false_iff_ne];omega);clear hc hb;go_wp2_with fail;go_meet;exact⟨by rw[Hd.out],rfl⟩
  · have Hd:=Lib.hid (show decide (bt s 0=45)=false from decide_eq_false (by rw[d41 s 0 (by omega)];decide));go_wp2_with fail;go_meet;exact⟨by rw[Hd.out],rfl⟩
 case rest =>
 obtain⟨rfl,rfl⟩:=hcut;go_upto_if 14 with fail;go_cut [4] (fun s4 wx=>s4=.int .i64 (atB s)∧w=wx);case first =>
  by_cases hb:bt s 0=45
  · have hd:=decide_eq_true hb;have Ha:=Lib.hid (Hat.out hb);go_wp2_with fail;go_meet;exact⟨by rw[Ha.out];rfl,rfl⟩
  · have hd:=decide_eq_false hb;have Ha:=Lib.hid (Han.out hb);go_wp2_with fail;go_meet;exact⟨by rw[Ha.out];rfl,rfl⟩
 case rest =>
 obtain⟨rfl,rfl⟩:=hcut;have hale:=co3 s;have Hat1:=Lib.hid (fun (h:bt s 0=45)=>Hat.out h);have Hoff:=Lib.hid (fun h=>dh3 (s:=s) h);have Hdig:=Lib.hid (fun i h0 hi h=>j17 (s:=s) (i:=i) h0 hi h);have Hpv:=Lib.hid (j58 s);have Hend:=Lib.hid (fun h hk=>j20 (s:=s) h hk);have Hsg:=Lib.hid (fun h=>dx6 (s:=s) h);have Hbd:=Lib.hid (cx8 s);obtain⟨a,ha⟩:∃a,a=atB s:=⟨_,rfl⟩;rw[←ha] at hale Hat Han Hoff Hdig Hpv Hend Hsg ⊢;have Ha:=Lib.hid ha;clear ha;by_cases hw:1≤(s.size:Int) - a∧(s.size:Int) - a≤9
 · have hin:inB ((s.size:Int) - a) 1 9=true:=b01.2 hw;have hwr:IntKind.i64.wrap ((s.size:Int) - a)=(s.size:Int) - a:=IntWalk.i64_in _ (by omega);have hc:=fun W=>N9 ((s.size:Int) - a) 1 9 W;simp only[hin] at hc;obtain⟨hw1,hw2⟩:=hw;go_wp2_with (go_at_call 206;refine (hc _).mono ?_;rintro e w' ⟨rfl,rfl⟩);go_loop [5,6] (fun nv iv=>∃k:Nat,a≤k∧k≤s.size∧iv=.int .i64 k∧nv=.int .i64 ((pv s k).1:Nat)∧Hid ((pv s k).2=k - a)) (fun _ iv=>s.size - (intOf iv).toNat);(case atStart=>exact⟨a,Nat.le_refl _,by omega,rfl,by rw[Hpv.out];rfl,Lib.hid (by rw[Hpv.out];simp)⟩);case round =>
    obtain⟨k,hk0,hk,rfl,rfl,Hk⟩:=hrel;have hlt11:=da7 s k (by omega);obtain⟨n,hn⟩:∃n,n=(pv s k).1:=⟨_,rfl⟩;rw[←hn] at hlt11 ⊢;have Hn:=Lib.hid hn;clear hn;by_cases hlt:k<s.size
    · obtain⟨b,hb⟩:∃b,b=bt s k:=⟨_,rfl⟩;have hx:(s[k]'hlt).toNat=b:=(by rw[bd3,hb]);have hbl:=dr9 s k;rw[←hb] at hbl;have Hb:=Lib.hid hb;clear hb;by_cases h48:b<48
      · have h48i:(b:Int)<48:=(by omega);have Hz:=Lib.hid (Hdig.out k hk0 hlt (by rw[←Hb.out];omega));go_wp2_with fail;exact bodyPost_ret (v:=.tuple #[.int .i64 0,.bool false]) (by simp[results,Tryz.results267,go_sem]) rfl ⟨by rw[Hz.out],Ext.refl _⟩
      · by_cases h57:57<b
        · have h48i:¬(b:Int)<48:=(by omega);have h57i:(57:Int)<b:=(by omega);have Hz:=Lib.hid (Hdig.out k hk0 hlt (by rw[←Hb.out];omega));go_wp2_with fail;exact bodyPost_ret (v:=.tuple #[.int .i64 0,.bool false]) (by simp[results,Tryz.results267,go_sem]) rfl ⟨by rw[Hz.out],Ext.refl _⟩
        · have h48i:¬(b:Int)<48:=(by omega);have h57i:¬(57:Int)<b:=(by omega);have Hy:Hid (pv s (k+1)=(10*n+(b - 48),k+1 - a)):=Lib.hid (by rw[bj7 s k (by rw[←Hb.out];omega),←Hn.out,←Hb.out,Hk.out];congr 1;omega);have w1:IntKind.u8.wrap ((b:Int) - 48)=(b:Int) - 48:=(by unfold IntKind.wrap;simp[IntKind.signed,IntKind.bits];omega);go_wp2_with fail;go_round;(case rel=>exact⟨k+1,by omega,by omega,by go_num,by rw[Hy.out];congr 1;simp;omega,Lib.hid (by rw[Hy.out])⟩);case measure=>(simp[intOf];omega)
    · have hkl:k=s.size:=(by omega);subst hkl;have He:=Lib.hid (Hend.out (by omega) Hk.out);have Hs:=Lib.hid (Hsg.out (by omega));have hcF:=bo4 (sgI s) Hbd.out;obtain⟨x,hx⟩:∃x,x=sgI s:=⟨_,rfl⟩;obtain⟨u,hu⟩:∃u,u=j0 x:=⟨_,rfl⟩;rw[←hx] at He Hs hcF;rw[←hu] at He hcF;rw[←Hn.out] at Hs;clear hx hu;have hq:=U6 (x:=u) (y:=s);by_cases h45:a=1
      · have Hx:Hid (x = -(n:Int)):=Lib.hid (by rw[Hs.out,if_pos];by_cases hb:bt s 0=45;exact hb;exfalso;have:=Han.out hb;omega);have hwn:IntKind.i64.wrap (-(n:Int)) = -(n:Int):=IntWalk.i64_in _ (by omega);rw[Hx.out] at hcF;subst h45;by_cases hus:u=s
        · rw[decide_eq_true hus] at hq;have Hz:=Lib.hid (He.out.trans (if_pos hus));clear hus;go_wp2_with (go_at_call 98;refine (hcF _).mono ?_;rintro e w' ⟨rfl,hE⟩);exact bodyPost_ret (v:=.tuple #[.int .i64 (-(n:Int)),.bool true]) (by simp[results,Tryz.results267,go_sem]) rfl ⟨by rw[Hz.out,Hx.out],hE⟩
        · rw[decide_eq_false hus] at hq;have Hz:=Lib.hid (He.out.trans (if_neg hus));clear hus;go_wp2_with (go_at_call 98;refine (hcF _).mono ?_;rintro e w' ⟨rfl,hE⟩);exact bodyPost_ret (v:=.tuple #[.int .i64 0,.bool false]) (by simp[results,Tryz.results267,go_sem]) rfl ⟨by rw[Hz.out],hE⟩
      · have Hx:Hid (x=(n:Int)):=Lib.hid (by rw[Hs.out,if_neg];intro hb;have:=Hat.out hb;omega);have h45i:((a:Int) == 1)=false:=(by rw[beq_eq_false_iff_ne];omega);rw[Hx.out] at hcF;by_cases hus:u=s
        · rw[decide_eq_true hus] at hq;have Hz:=Lib.hid (He.out.trans (if_pos hus));clear hus;go_wp2_with (go_at_call 98;refine (hcF _).mono ?_;rintro e w' ⟨rfl,hE⟩);exact bodyPost_ret (v:=.tuple #[.int .i64 (n:Int),.bool true]) (by simp[results,Tryz.results267,go_sem]) rfl ⟨by rw[Hz.out,Hx.out],hE⟩
        · rw[decide_eq_false hus] at hq;have Hz:=Lib.hid (He.out.trans (if_neg hus));clear hus;go_wp2_with (go_at_call 98;refine (hcF _).mono ?_;rintro e w' ⟨rfl,hE⟩);exact bodyPost_ret (v:=.tuple #[.int .i64 0,.bool false]) (by simp[results,Tryz.results267,go_sem]) rfl ⟨by rw[Hz.out],hE⟩
 · have hin:inB ((s.size:Int) - a) 1 9=false:=bm1.2 hw;have hwr:IntKind.i64.wrap ((s.size:Int) - a)=(s.size:Int) - a:=IntWalk.i64_in _ (by omega);have hc:=fun W=>N9 ((s.size:Int) - a) 1 9 W;simp only[hin] at hc;have Hz:=Lib.hid (Hoff.out (by omega));clear hw;go_wp2_with (go_at_call 206;refine (hc _).mono ?_;rintro e w' ⟨rfl,rfl⟩);exact bodyPost_ret (v:=.tuple #[.int .i64 0,.bool false]) (by simp[results,Tryz.results267,go_sem]) rfl ⟨by rw[Hz.out],Ext.refl _⟩
theorem cl7(s:ByteArray)(w:World)(hs:s.size≤100000) :
 Calls Tryz.prog 40 #[.string s] w fun e w'=>e=.returned (.tuple #[.int .i64 (pI s).1,.bool (pI s).2])∧Ext w w':=by
 have Hbd:=Lib.hid (cx8 s);have Hsg:Hid (sgI s=if bt s 0=45 then -((pv s (min s.size 11)).1:Int) else (pv s (min s.size 11)).1):=Lib.hid rfl;have Hy:=Lib.hid (fun h=>c80 (s:=s) h);have Hn:=Lib.hid (fun h=>cm2 (s:=s) h);go_enter Tryz.func40,Tryz.ntmps40;go_wp2_with fail;go_loop [4,5,6] (fun nv kv iv=>∃k:Nat,k≤min s.size 11∧iv=.int .i64 k∧nv=.int .i64 ((pv s k).1:Nat)∧kv=.int .i64 ((pv s k).2:Nat)) (fun _ _ iv=>s.size - (intOf iv).toNat);case atStart=>exact⟨0,by omega,rfl,rfl,rfl⟩
 case round =>
  obtain⟨i,hi,rfl,rfl,rfl⟩:=hrel;have hlt11:=da7 s i (by omega);have hb2:=(cm5 s i).2;by_cases hlt:i<s.size∧i<11
  · obtain⟨hlt,hl11⟩:=hlt;have hY:=bj7 s i;have hN:=da8 s i;obtain⟨n,hn⟩:∃n,n=(pv s i).1:=⟨_,rfl⟩;obtain⟨m,hm⟩:∃m,m=(pv s i).2:=⟨_,rfl⟩;obtain⟨b,hb⟩:∃b,b=bt s i:=⟨_,rfl⟩;have hx:(s[i]'hlt).toNat=b:=(by rw[bd3,hb]);have hbl:=dr9 s i;rw[←hb] at hbl hY hN;rw[←hn] at hlt11 hY ⊢;rw[←hm] at hb2 hY ⊢;have hl11i:(i:Int)<11:=(by omega);by_cases h48:48≤b
    · have h48i:(48:Int)≤b:=(by omega);by_cases h57:b≤57
      · have h57i:(b:Int)≤57:=(by omega);have Hp:=Lib.hid (hY ⟨h48,h57⟩);have w1:IntKind.u8.wrap ((b:Int) - 48)=(b:Int) - 48:=(by unfold IntKind.wrap;simp[IntKind.signed,IntKind.bits];omega);clear hY hN hn hm hb;go_wp2_with fail;go_round;(case rel=>exact⟨i+1,by omega,by go_num,by rw[Hp.out];congr 1;simp;omega,by rw[Hp.out];congr 1⟩);case measure=>(simp[intOf];omega)
      · have h57i:¬(b:Int)≤57:=(by omega);have Hp:=Lib.hid (hN (by omega));have Hn2:=Lib.hid hn;have Hm2:=Lib.hid hm;clear hY hN hn hm hb;go_wp2_with fail;go_round;(case rel=>exact⟨i+1,by omega,by go_num,by rw[Hp.out,←Hn2.out],by rw[Hp.out,←Hm2.out]⟩);case measure=>(simp[intOf];omega)
    · have h48i:¬(48:Int)≤b:=(by omega);have Hp:=Lib.hid (hN (by omega));have Hn2:=Lib.hid hn;have Hm2:=Lib.hid hm;clear hY hN hn hm hb;go_wp2_with fail;go_round;(case rel=>exact⟨i+1,by omega,by go_num,by rw[Hp.out,←Hn2.out],by rw[Hp.out,←Hm2.out]⟩);case measure=>(simp[intOf];omega)
  · have hil:i=min s.size 11:=(by omega);have hend:¬(i<s.size)∨(i<s.size∧¬(i:Int)<11):=(by omega);rw[←hil] at Hsg Hy Hn;clear hil;obtain⟨n,hn⟩:∃n,n=(pv s i).1:=⟨_,rfl⟩;obtain⟨m,hm⟩:∃m,m=(pv s i).2:=⟨_,rfl⟩;rw[←hn] at hlt11 Hsg ⊢;rw[←hm] at hb2 Hy Hn ⊢;clear hn hm hlt;rcases hend with he | ⟨he,he2⟩;all_goals (
     go_upto_region 9 with fail
     go_cut [44] (fun s4 wx=>s4=.bool (decide (bt s 0=45))∧w=wx)
     case first =>
      by_cases h0:0<s.size
      · obtain⟨b,hb⟩:∃b,b=bt s 0:=⟨_,rfl⟩;have hx:(s[0]'h0).toNat=b:=(by rw[bd3,hb]);have h0i:(0:Int)<s.size:=(by omega);by_cases hc:b=45
        · have hd:decide (bt s 0=45)=true:=decide_eq_true (by rw[←hb];exact hc);have Hd:=Lib.hid hd;clear hb hd;subst hc;go_wp2_with fail;go_meet;exact⟨by rw[Hd.out],rfl⟩
        · have Hd:=Lib.hid (show decide (bt s 0=45)=false from decide_eq_false (by rw[←hb];exact hc));have hcb:((b:Int) == 45)=false:=(by rw[beq_eq_false_iff_ne];omega);clear hc hb;go_wp2_with fail;go_meet;exact⟨by rw[Hd.out],rfl⟩
      · have Hd:=Lib.hid (show decide (bt s 0=45)=false from decide_eq_false (by rw[d41 s 0 (by omega)];decide));go_wp2_with fail;go_meet;exact⟨by rw[Hd.out],rfl⟩
     case rest =>
      obtain⟨rfl,rfl⟩:=hcut;go_upto_if 44 with fail;go_cut [4] (fun s4 wx=>s4=.int .i64 (sgI s)∧w=wx);case first =>
       by_cases hb:bt s 0=45
       · have hd:=decide_eq_true hb;have Ha:=Lib.hid (Hsg.out.trans (if_pos hb));have hwn:IntKind.i64.wrap (-(n:Int)) = -(n:Int):=IntWalk.i64_in _ (by omega);go_wp2_with fail;go_meet;exact⟨by rw[Ha.out],rfl⟩
       · have hd:=decide_eq_false hb;have Ha:=Lib.hid (Hsg.out.trans (if_neg hb));go_wp2_with fail;go_meet;exact⟨by rw[Ha.out],rfl⟩
      case rest =>
       obtain⟨rfl,rfl⟩:=hcut;have hcF:=bk0 (sgI s) Hbd.out;obtain⟨x,hx⟩:∃x,x=sgI s:=⟨_,rfl⟩;obtain⟨u,hu⟩:∃u,u=j0 x:=⟨_,rfl⟩;rw[←hx] at Hy Hn hcF ⊢;rw[←hu] at Hy Hn hcF;have hq:=U6 (x:=u) (y:=s);clear hx hu;by_cases hm9:9<m
       · have hm9i:(9:Int)<m:=(by omega);have Hz:=Lib.hid (Hn.out (by omega));go_wp2_with fail;exact bodyPost_ret (v:=.tuple #[.int .i64 0,.bool false]) (by simp[results,Tryz.results40,go_sem]) rfl ⟨by rw[Hz.out],Ext.refl _⟩
       · have hm9i:¬(9:Int)<m:=(by omega);by_cases hs10:10<s.size
         · have hs10i:(10:Int)<s.size:=(by omega);have Hz:=Lib.hid (Hn.out (by omega));go_wp2_with fail;exact bodyPost_ret (v:=.tuple #[.int .i64 0,.bool false]) (by simp[results,Tryz.results40,go_sem]) rfl ⟨by rw[Hz.out],Ext.refl _⟩
         · have hs10i:¬(10:Int)<s.size:=(by omega);by_cases hus:u=s
           · rw[decide_eq_true hus] at hq;have Hz:=Lib.hid (Hy.out ⟨by omega,by omega,hus⟩);clear hus;go_wp2_with (go_at_call 45;refine (hcF _).mono ?_;rintro e w' ⟨rfl,hE⟩);exact bodyPost_ret (v:=.tuple #[.int .i64 x,.bool true]) (by simp[results,Tryz.results40,go_sem]) rfl ⟨by rw[Hz.out],hE⟩
           · rw[decide_eq_false hus] at hq;have Hz:=Lib.hid (Hn.out (fun q=>hus q.2.2));clear hus;go_wp2_with (go_at_call 45;refine (hcF _).mono ?_;rintro e w' ⟨rfl,hE⟩);exact bodyPost_ret (v:=.tuple #[.int .i64 0,.bool false]) (by simp[results,Tryz.results40,go_sem]) rfl ⟨by rw[Hz.out],hE⟩)
end Go.Zz
namespace Go.Zz
open Go.RowKit Go.Proofs
set_option maxHeartbeats 1000000
set_option maxRecDepth 4000
theorem dp0{wz w:World}{u:Value}{l:List Int}(hO:Own 3 wz w u l):∀g,u.ownBlock=some g→∃cs,Blk w g 3 cs:=fun g e=>by
 obtain⟨⟨-,h2⟩,-⟩:=hO
 rcases h2 with ⟨rfl,-⟩ | ⟨g',cap,cur,rfl,-,hh,-⟩
 · cases e
 · cases e;exact⟨cur,hh⟩
theorem J0.grownI{w0 wz w w':World}{v u:Value}{L:List ByteArray}{l:List Int}(h:J0 w0 w v L)(hO:Own 3 wz w u l)(hg:w.grownBy w' u.ownBlock):J0 w0 w' v L:=by
 refine⟨h.1.kept hg ?_,h.2⟩;cases hv:v.ownBlock with
 | none=>simp
 | some g =>
  simp;intro e;obtain⟨cs,hb⟩:=dp0 hO g e.symm;obtain⟨⟨-,h2⟩,-⟩:=h;rcases h2 with ⟨rfl,-⟩ | ⟨g',cap,cur,rfl,-,hh,-⟩
  · cases hv
  · cases hv;unfold Blk at hb;rw[hb] at hh;simp at hh
theorem J0.indexS{w0 w:World}{v:Value}{L:List ByteArray}(h:J0 w0 w v L)(h0:0<L.length):∃g c,v=.slice (some ⟨g,0,none⟩) L.length c ∧
 (∀i,i<L.length→w.cell? ⟨g,i,none⟩=some (.string (m6 L i)))∧∀(i:Nat) W,i<L.length→(Instr.indexAt 24 (.slice (some ⟨g,0,none⟩) L.length c) (.int .i64 (i:Int))).run Tryz.prog W=.ok (.pointer (some ⟨g,i,none⟩)) W:=by
 obtain⟨ao,c,rfl,hlen,hcell⟩:=h.strs;obtain⟨g,rfl,-⟩:=hcell 0 h0;refine⟨g,c,rfl,fun i hi=>?_,fun i W hi=>?_⟩
 · obtain⟨g',e,hc⟩:=hcell i hi;simp only[Option.some.injEq,Addr.mk.injEq,and_true] at e;rw[e];exact hc
 · rw[run_indexAt_slice (h:=elS),if_pos (by omega),szS];simp[Result.andThen,Addr.add_lit]
theorem N4{L:List ByteArray}{i:Nat}(h:i<L.length):m6 L i∈L:=by
 simp[m6,List.getD,h]
end Go.Zz
namespace Go.Zz
open Go.RowKit Go.Proofs
set_option maxHeartbeats 1000000
set_option maxRecDepth 4000
theorem dc1(v:Value)(l:List Int)(vX:Value)(X:List Int)(w:World)(h:c8 w v l)(hX:c8 w vX X) :
 Calls Tryz.prog 347 #[.agg #[v],vX] w fun e w'=>e=.returned (.tuple #[.int .i64 (soV l X),.bool (soB l X)])∧Ext w w':=by
 obtain⟨wb,Hwb,hE0,hb,hg,hE,Hsz⟩:=j60 28 h;clear h;obtain⟨ao,c,adr,rfl,hlen,hadr,hcell⟩:=hX.op;have hix:=j6 (c:=c) elI szI hadr;clear hadr hX;go_enter Tryz.func347,Tryz.ntmps347;go_wp2_with fail;rw[←Hwb.out];go_loopw [6,11] (fun av iv wr=>∃(k a:Nat),k≤X.length∧iv=.int .i64 k∧av=.int .i64 a∧a<2 ^ 24∧Ext wb wr∧Hid (soG l X 0=soG l (X.drop k) a)) (fun _ iv _=>X.length - (intOf iv).toNat);case atStart=>exact⟨0,0,by omega,rfl,rfl,by decide,hE,Lib.hid rfl⟩
 case round =>
  clear hE;obtain⟨k,a,hk,rfl,rfl,ha,hE,H⟩:=hrel;have kb:=hb _ hE;by_cases hlt:k<X.length
  · have hd:=bl5 X k hlt;have hck:=hcell k wr hlt (hE0.trans hE);cases hh:K2 l (nth X k)
    · have Hn:Hid (soB l X=false∧soV l X=0):=Lib.hid (c97 (by rw[H.out,hd,d74 hh]));have cI:=bi5 v l (nth X k) wr (hg _ hE);rw[hh] at cI;clear hd hh;go_wp2_with (go_at_call 231;refine cI.mono ?_;rintro e w1 ⟨rfl,hE1⟩);exact bodyPost_ret (v:=.tuple #[.int .i64 0,.bool false]) (by simp[results,Tryz.results347,go_sem]) rfl ⟨by rw[Hn.out.1,Hn.out.2],hE0.trans (hE.trans hE1)⟩
    · have cI:=bi5 v l (nth X k) wr (hg _ hE);rw[hh] at cI;obtain⟨n,hn,hno,hgr⟩:=bb0 hh;have hob:=l8 hgr;rw[hn] at hd hh cI hck;have Hx:=Lib.hid hn;have hs1:=p0 (n:=n) (by omega);have hor:=F8 (o:=a) (z:=n) ha (by omega);cases ht:a.testBit n
      · have hin:=V1 a n ha (by omega) (b:=false);have Hn:Hid (soG l X 0=soG l (X.drop (k+1)) (a ||| 2 ^ n)):=Lib.hid (by rw[H.out,hd,dj2 hh ht]);have hab:a ||| 2 ^ n<2 ^ 24:=Nat.or_lt_two_pow ha (Nat.pow_lt_pow_right (by omega) (by omega))
        have ci:=fun W=>hin W ht;clear hd hh ht hgr hn hin;have hcx:∀W,Ext wr W→W.cell? (adr k)=some (.int .i64 (n:Int)):=fun W hW=>hW.cell hck;go_wp2_with (first | (go_at_call 231;refine cI.mono ?_;rintro e w1 ⟨rfl,hE1⟩) | (go_at_call 225;refine (ci _).mono ?_;rintro e w' ⟨rfl,rfl⟩));go_roundw;(case rel=>exact⟨k+1,a ||| 2 ^ n,by omega,by go_num,rfl,hab,hE.trans hE1,Hn⟩);case measure=>(simp[intOf];omega)
      · have hin:=V1 a n ha (by omega) (b:=true);have Hn:Hid (soB l X=false∧soV l X=0):=Lib.hid (c97 (by rw[H.out,hd,d73 ht]));have ci:=fun W=>hin W ht;clear hd hh ht hgr hn hin;go_wp2_with (first | (go_at_call 231;refine cI.mono ?_;rintro e w1 ⟨rfl,hE1⟩) | (go_at_call 225;refine (ci _).mono ?_;rintro e w' ⟨rfl,rfl⟩));exact bodyPost_ret (v:=.tuple #[.int .i64 0,.bool false]) (by simp[results,Tryz.results347,go_sem]) rfl ⟨by rw[Hn.out.1,Hn.out.2],hE0.trans (hE.trans hE1)⟩
  · have hkl:k=X.length:=(by omega);have Hn:Hid (soB l X=c9 l∧soV l X=(a:Int)):=Lib.hid (d75 (by rw[H.out,hkl,List.drop_length];rfl));clear hkl;have cG:=l0 v l wr (hg _ hE);go_wp2_with (refine cG.mono ?_;rintro e w1 ⟨rfl,hE1⟩);exact bodyPost_ret (v:=.tuple #[.int .i64 a,.bool (c9 l)]) (by simp[results,Tryz.results347,go_sem]) rfl ⟨by rw[Hn.out.1,Hn.out.2],hE0.trans (hE.trans hE1)⟩
end Go.Zz
namespace Go.Zz
open Go.RowKit Go.Proofs
set_option maxHeartbeats 1000000
set_option maxRecDepth 4000
theorem cq0(c:Int):B7 c mtB=[mtB]:=rfl
theorem j55:pI mtB=(0,false):=dh3 (by decide)
theorem j57(l:List Int)(a:Nat):W3 l (B7 44 mtB) a=none:=by
 rw[cq0];exact cc9 (by rw[j55];simp)
theorem b03{s:ByteArray}(h:¬s=mtB):s.toList.isEmpty=false:=by
 refine T2 ?_;rcases Nat.eq_zero_or_pos s.size with e | e
 · exact absurd (dg3 s e) h
 · exact e
theorem bi6(s t:ByteArray){b:Bool}(h:decide (s=t)=b):(s.toList == t.data.toList)=b:=by
 rw[←ByteArray.toList_eq,U6,h]
theorem de4(L:List ByteArray)(k:Nat)(h:k<L.length):L.drop k=m6 L k :: L.drop (k+1):=by
 rw[List.drop_eq_getElem_cons h];simp[m6,List.getD,h]
theorem Q2(v:Value)(l:List Int)(s:ByteArray)(w:World)(h:c8 w v l)(hs:s.size≤100000) :
 Calls Tryz.prog 171 #[.agg #[v],.string s] w fun e w'=>e=.returned (.tuple #[.int .i64 (psV l s).1,.bool (psV l s).2])∧Ext w w':=by
 obtain⟨wb,Hwb,hE0,hb,hg,hE,Hsz⟩:=j60 28 h;clear h;by_cases hn:s=be6
 · have Hv:=Lib.hid (dx2 (l:=l) hn);have hq:=bi6 s be6 (decide_eq_true hn);change (s.toList == [110,111,110,101])=true at hq;have hmt:s.toList.isEmpty=false:=b03 (by rw[hn];decide);have cF:=fun W h=>E3 v l 0 W h;obtain⟨u,hu⟩:∃u,u=fsF l 0:=⟨_,rfl⟩;rw[←hu] at cF;have hqs:=U6 (x:=u) (y:=s);cases hg1:c9 l
   · have hus:decide (u=s)=false:=decide_eq_false (by rw[hu,hn,b60 (by unfold d8;rw[hg1];rfl)];decide);rw[hus] at hqs;have Hz:Hid (psV l s=(0,false)):=Lib.hid (by rw[Hv.out,hg1]);clear hus hu hn;go_enter Tryz.func171,Tryz.ntmps171;go_wp2_with (go_at_call 106;rw[←Hwb.out];refine (cF _ (hg _ hE)).mono ?_;rintro e w2 ⟨rfl,hE2⟩);exact bodyPost_ret (v:=.tuple #[.int .i64 0,.bool false]) (by simp[results,Tryz.results171,go_sem]) rfl ⟨by rw[Hz.out],hE0.trans hE2⟩
   · have hus:decide (u=s)=true:=decide_eq_true (by
      have h2:d8 l ((0:Nat):Int)=true:=(by unfold d8;rw[hg1];simp;exact Int.pow_pos (by omega));rw[hu,hn,show (0:Int)=((0:Nat):Int) from rfl,Y5 h2];rfl)
     rw[hus] at hqs
     have Hz:Hid (psV l s=(0,true)):=Lib.hid (by rw[Hv.out,hg1])
     clear hus hu hn
     go_enter Tryz.func171,Tryz.ntmps171
     go_wp2_with (go_at_call 106;rw[←Hwb.out];refine (cF _ (hg _ hE)).mono ?_;rintro e w2 ⟨rfl,hE2⟩)
     exact bodyPost_ret (v:=.tuple #[.int .i64 0,.bool true]) (by simp[results,Tryz.results171,go_sem]) rfl ⟨by rw[Hz.out],hE0.trans hE2⟩
 · have Hbad:=Lib.hid (fun h2=>j19 (l:=l) hn h2);have Hend:=Lib.hid (fun a h2=>dh8 (l:=l) (a:=a) hn h2);have hq:=bi6 s be6 (decide_eq_false hn);change (s.toList == [110,111,110,101])=false at hq;obtain⟨hs1,hs2,hs3⟩:=bd6 44 s;have Hm:Hid (∀a,W3 l (B7 44 s) 0=some a→s.toList.isEmpty=false):=Lib.hid (fun a ha=>b03 fun e=>by rw[e,j57] at ha;cases ha);have hcut:=bh7 s 44 wb hs;clear hn;go_enter Tryz.func171,Tryz.ntmps171;go_wp2_with (go_at_call 53;rw[←Hwb.out];refine hcut.mono ?_;rintro e w1 ⟨v1,rfl,hL,hE1⟩;obtain⟨g,c,rfl,hcell,hix⟩:=hL.indexS (by omega));have Hpar:=Lib.hid hs1;obtain⟨L,hLd⟩:∃L,L=B7 44 s:=⟨_,rfl⟩;rw[←hLd] at hs2 hs3 hL hix hcell Hbad Hend Hm Hpar ⊢;obtain⟨M,hM⟩:∃M,M=L.length:=⟨_,rfl⟩;have Hcs:Hid (∀i W,i<M→Ext w1 W→W.cell? ⟨g,i,none⟩=some (.string (m6 L i))):=Lib.hid fun i W hi hW=>hW.cell (hcell i (by rw[←hM];exact hi));rw[←hM] at hs2 hs3 hL hix ⊢;have HM:=Lib.hid hM;clear hcell hcut hs1 hM hLd hL;go_loopw [6,16] (fun av iv wr=>∃(k a:Nat),k≤M∧iv=.int .i64 k∧av=.int .i64 a∧a<2 ^ 24∧Ext w1 wr∧Hid (W3 l L 0=W3 l (L.drop k) a)) (fun _ iv _=>M - (intOf iv).toNat);(case atStart=>exact⟨0,0,by omega,rfl,rfl,by decide,Ext.refl _,Lib.hid rfl⟩);case round =>
    obtain⟨k,a,hk,rfl,rfl,ha,hEr,H⟩:=hrel;have hEb:=hE1.trans hEr;have kb:=hb _ hEb;by_cases hlt:k<M
    · have hck:=Hcs.out k wr hlt hEr;have hsz:(m6 L k).size≤100000:=(by have:=Hpar.out _ (N4 (L:=L) (i:=k) (by rw[←HM.out];exact hlt));omega);have Hd:Hid (W3 l L 0=W3 l (m6 L k :: L.drop (k+1)) a):=Lib.hid (by rw[H.out,←de4 L k (by rw[←HM.out];exact hlt)]);have hcP:=fun W=>bq8 (m6 L k) W hsz;obtain⟨x,hx⟩:∃x,x=m6 L k:=⟨_,rfl⟩;rw[←hx] at hck hcP Hd;clear hx hsz H;cases hp:(pI x).2
      · rw[hp] at hcP;have Hz:=Lib.hid (Hbad.out (by rw[Hd.out];exact cc9 (by rw[hp];simp)));obtain⟨n,hn⟩:∃n,n=(pI x).1:=⟨_,rfl⟩;rw[←hn] at hcP;clear hp hn Hd;go_wp2_with (go_at_call 267;refine (hcP _).mono ?_;rintro e w2 ⟨rfl,hE2⟩);exact bodyPost_ret (v:=.tuple #[.int .i64 0,.bool false]) (by simp[results,Tryz.results171,go_sem]) rfl ⟨by rw[Hz.out],hE0.trans (hEb.trans hE2)⟩
      · rw[hp] at hcP;cases hh:K2 l (pI x).1
        · have cI:=fun W h=>bi5 v l (pI x).1 W h;rw[hh] at cI;have Hz:=Lib.hid (Hbad.out (by rw[Hd.out];exact cc9 (by rw[hh];simp)));obtain⟨n,hn⟩:∃n,n=(pI x).1:=⟨_,rfl⟩;rw[←hn] at hcP cI;clear hn hp hh Hd;go_wp2_with (first | (go_at_call 267;refine (hcP _).mono ?_;rintro e w2 ⟨rfl,hE2⟩;have kb2:=hb _ (hEb.trans hE2)) | (go_at_call 231;refine (cI _ (hg _ (hEb.trans hE2))).mono ?_;rintro e w3 ⟨rfl,hE3⟩));exact bodyPost_ret (v:=.tuple #[.int .i64 0,.bool false]) (by simp[results,Tryz.results171,go_sem]) rfl ⟨by rw[Hz.out],hE0.trans (hEb.trans (hE2.trans hE3))⟩
        · have cI:=fun W h=>bi5 v l (pI x).1 W h;rw[hh] at cI;obtain⟨n,hn,hno,hgr⟩:=bb0 hh;have hob:=l8 hgr;have Hn:Hid (W3 l L 0=W3 l (L.drop (k+1)) (a ||| 2 ^ n)):=Lib.hid (by rw[Hd.out,d69 hp hh hn]);rw[hn] at cI hcP;have hs1:=p0 (n:=n) (by omega);have hor:=F8 (o:=a) (z:=n) ha (by omega);have hab:a ||| 2 ^ n<2 ^ 24:=Nat.or_lt_two_pow ha (Nat.pow_lt_pow_right (by omega) (by omega))
          clear hn hp hh hgr Hd;go_wp2_with (first | (go_at_call 267;refine (hcP _).mono ?_;rintro e w2 ⟨rfl,hE2⟩;have kb2:=hb _ (hEb.trans hE2)) | (go_at_call 231;refine (cI _ (hg _ (hEb.trans hE2))).mono ?_;rintro e w3 ⟨rfl,hE3⟩));go_roundw;(case rel=>exact⟨k+1,a ||| 2 ^ n,by omega,by go_num,rfl,hab,hEr.trans (hE2.trans hE3),Hn⟩);case measure=>(simp[intOf];omega)
    · have hkl:k=M:=(by omega);subst hkl;have hso:W3 l L 0=some a:=(by rw[H.out,HM.out,List.drop_length];rfl);have hmt:=Hm.out a hso;have He:=Lib.hid (Hend.out a hso);have cF:=fun W h=>E3 v l a W h;obtain⟨u,hu⟩:∃u,u=fsF l a:=⟨_,rfl⟩;rw[←hu] at cF He;have hqs:=U6 (x:=u) (y:=s);clear hu hso;by_cases hus:u=s
      · rw[decide_eq_true hus] at hqs;have Hz:=Lib.hid (He.out.trans (if_pos hus));clear hus;go_wp2_with (go_at_call 106;refine (cF _ (hg _ hEb)).mono ?_;rintro e w2 ⟨rfl,hE2⟩);exact bodyPost_ret (v:=.tuple #[.int .i64 a,.bool true]) (by simp[results,Tryz.results171,go_sem]) rfl ⟨by rw[Hz.out],hE0.trans (hEb.trans hE2)⟩
      · rw[decide_eq_false hus] at hqs;have Hz:=Lib.hid (He.out.trans (if_neg hus));clear hus;go_wp2_with (go_at_call 106;refine (cF _ (hg _ hEb)).mono ?_;rintro e w2 ⟨rfl,hE2⟩);exact bodyPost_ret (v:=.tuple #[.int .i64 0,.bool false]) (by simp[results,Tryz.results171,go_sem]) rfl ⟨by rw[Hz.out],hE0.trans (hEb.trans hE2)⟩
end Go.Zz
namespace Go.Zz
open Go.RowKit Go.Proofs
set_option maxHeartbeats 1000000
set_option maxRecDepth 4000
def noC(c:Int)(x:ByteArray):Prop:=∀b∈x.data.toList,¬(b.toNat:Int)=c
def bl4(c:Int):List UInt8→ByteArray→List ByteArray
 | [],p=>[p]
 | b :: r,p=>if (b.toNat:Int)=c then p :: bl4 c r ⟨#[]⟩ else bl4 c r (p++⟨#[b]⟩)
theorem du6(s:ByteArray)(i:Nat)(h:i<s.size):s.extract i (i+1)=⟨#[s[i]'h]⟩:=by
 apply ByteArray.ext;apply Array.ext
 · simp;have:s.data.size=s.size:=rfl;omega
 · intro j h1 h2;have:j=0:=(by simp at h2;omega);subst this;simp;rfl
theorem de0(c:Int)(s:ByteArray):∀n i p,s.size - i=n→i≤s.size→V9 c s i p=bl4 c (s.data.toList.drop i) p:=by
 intro n;induction n with
 | zero =>
  intro i p h hi;rw[c22 c s i p (by omega),List.drop_of_length_le (by rw[Array.length_toList];show s.size≤i;omega)];rfl
 | succ n ih =>
  intro i p h hi;have hlt:i<s.size:=by omega
  have hl:i<s.data.toList.length:=by rw[Array.length_toList];exact hlt
  have hb:(s.data.toList[i].toNat:Int)=bt s i:=by rw[←bd3 s i hlt];rfl
  rw[List.drop_eq_getElem_cons hl];show _=if _ then _ else _;by_cases hc:(bt s i:Int)=c
  · rw[c23 c s i p hlt hc,if_pos (by rw[hb];exact hc),ih (i+1) _ (by omega) (by omega)]
  · rw[br4 c s i p hlt hc,if_neg (by rw[hb];exact hc),ih (i+1) _ (by omega) (by omega),du6 s i hlt];rfl
theorem b59(c:Int)(s:ByteArray):B7 c s=bl4 c s.data.toList ⟨#[]⟩:=by
 have:=de0 c s s.size 0 ⟨#[]⟩ (by omega) (by omega);rw[List.drop_zero] at this;exact this
theorem dc5(p:ByteArray)(b:UInt8)(r:List UInt8):(p++⟨#[b]⟩)++(⟨r.toArray⟩:ByteArray)=p++⟨(b :: r).toArray⟩:=by
 apply ByteArray.ext;simp
theorem br2(c:Int):∀(xs:List UInt8) (p:ByteArray),(∀b∈xs,¬(b.toNat:Int)=c)→bl4 c xs p=[p++⟨xs.toArray⟩]
 | [],p,_=>by
  show [p]=_
  congr 1
  apply ByteArray.ext;simp
 | b :: r,p,h=>by
  show (if _ then _ else _)=_
  rw[if_neg (h b (by simp)),br2 c r _ (fun x hx=>h x (by simp[hx])),dc5]
theorem cf9(c:Int)(d:UInt8)(hd:(d.toNat:Int)=c)(ys:List UInt8):∀(xs:List UInt8) (p:ByteArray),(∀b∈xs,¬(b.toNat:Int)=c)→bl4 c (xs++d :: ys) p=(p++⟨xs.toArray⟩) :: bl4 c ys ⟨#[]⟩
 | [],p,_=>by
  show (if _ then _ else _)=_
  rw[if_pos hd]
  congr 1
  apply ByteArray.ext;simp
 | b :: r,p,h=>by
  show (if _ then _ else _)=_
  have q:=cf9 c d hd ys r (p++⟨#[b]⟩) (fun x hx=>h x (by simp[hx]))
  rw[if_neg (h b (by simp))]
  exact q.trans (by rw[dc5])
theorem br3(c:Int)(d:UInt8)(hd:(d.toNat:Int)=c)(ys:List UInt8)(hy:∀b∈ys,¬(b.toNat:Int)=c):∀(xs:List UInt8) (p:ByteArray),bl4 c (xs++d :: ys) p=bl4 c xs p++[⟨ys.toArray⟩]
 | [],p=>by
  show (if _ then _ else _)=[p]++_
  rw[if_pos hd,br2 c ys _ hy]
  have e:(⟨#[]⟩:ByteArray)++⟨ys.toArray⟩=⟨ys.toArray⟩:=by apply ByteArray.ext;simp
  rw[e];rfl
 | b :: r,p=>by
  show (if _ then _ else _)=(if _ then _ else _)++_
  split
  · rw[List.cons_append]
    exact congrArg _ (br3 c d hd ys hy r ⟨#[]⟩)
  · exact br3 c d hd ys hy r _
theorem d60(x:ByteArray):(⟨#[]⟩:ByteArray)++⟨x.data.toList.toArray⟩=x:=by
 apply ByteArray.ext;simp
theorem c20{c:Int}{x:ByteArray}(h:noC c x):B7 c x=[x]:=by
 rw[b59,br2 c _ _ h,d60]
theorem dd8{c:Int}{x y:ByteArray}{d:UInt8}(hd:(d.toNat:Int)=c)(h:noC c x):B7 c (x++⟨#[d]⟩++y)=x :: B7 c y:=by
 rw[b59,b59];have e:(x++⟨#[d]⟩++y).data.toList=x.data.toList++d :: y.data.toList:=by simp
 rw[e,cf9 c d hd _ _ _ h,d60]
theorem bj2{c:Int}{x y:ByteArray}(hx:noC c x)(hy:noC c y):noC c (x++y):=by
 intro b hb;rw[ByteArray.data_append,Array.toList_append,List.mem_append] at hb;rcases hb with hb | hb
 · exact hx b hb
 · exact hy b hb
theorem j14(c:Int):noC c ⟨#[]⟩:=fun b hb=>by simp at hb
theorem do4{c:Int}{L:List Int}(h:∀x∈L,0≤x∧x<256∧x≠c):noC c (strOfNums L):=by
 intro b hb;rw[strOfNums_data,List.mem_map] at hb;obtain⟨x,hx,rfl⟩:=hb;obtain⟨h1,h2,h3⟩:=h x hx;rw[UInt8.toNat_ofNat'];omega
theorem by1{c:Int}(hc:c<45∨57<c∨c=46∨c=47)(n:Int):noC c (j0 n):=by
 have hd:noC c (O2 n.natAbs ⟨#[]⟩):=by
  rw[b07];refine do4 fun x hx=>?_;have:=ds7 _ x (List.mem_reverse.1 hx);omega
 unfold j0;split
 · intro b hb;simp at hb;subst hb;show ¬(48:Int)=c;omega
 · split
   · refine bj2 ?_ hd;intro b hb;simp at hb;subst hb;show ¬(45:Int)=c;omega
   · exact hd
theorem cu9{c:Int}{s:ByteArray}{f:Nat→ByteArray}(hs:noC c s):∀k,(∀i,i<k→noC c (f i))→noC c (jn s f k)
 | 0,_=>j14 c
 | k+1,h=>by
  have h1:=cu9 hs k (fun i hi=>h i (by omega))
  unfold jn
  refine bj2 ?_ (h k (by omega))
  split
  · exact bj2 h1 hs
  · exact h1
theorem cf8{c:Int}{x y:ByteArray}{d:UInt8}(hd:(d.toNat:Int)=c)(h:noC c y):B7 c (x++⟨#[d]⟩++y)=B7 c x++[y]:=by
 rw[b59,b59];have e:(x++⟨#[d]⟩++y).data.toList=x.data.toList++d :: y.data.toList:=by simp
 rw[e,br3 c d hd _ h]
theorem de1{c:Int}{d:UInt8}(hd:(d.toNat:Int)=c)(f:Nat→ByteArray):∀k,0<k→(∀i,i<k→noC c (f i))→B7 c (jn ⟨#[d]⟩ f k)=(List.range k).map f:=by
 intro k;induction k with
 | zero=>intro h;omega
 | succ k ih =>
  intro _ hf;by_cases h0:k=0
  · subst h0;have e:jn ⟨#[d]⟩ f 1=f 0:=(by rw[T0];apply ByteArray.ext;simp);rw[e,c20 (hf 0 (by omega))];rfl
  · rw[T9 _ _ (by omega),cf8 hd (hf k (by omega)),ih (by omega) (fun i hi=>hf i (by omega)),List.range_succ,List.map_append];rfl
theorem cv4{n:Nat}(h:n<100):pI (j0 n)=((n:Int),true):=by
 have hl:∀L:List Int,(∀x∈L,48≤x∧x≤57)→∀i,i<L.length→(bt (strOfNums L) i:Int)=nth L i∧48≤nth L i∧nth L i≤57:=by
  intro L hL i hi;have:=hL _ (b92 hi);exact⟨dd2 L i hi (by omega),this.1,this.2⟩
 have key:∀(L:List Int) (v:Int),(∀x∈L,48≤x∧x≤57)→j0 n=strOfNums L→(L.length=1∨L.length=2)→v=(n:Int)→(∀a,L=[a]→a - 48=v)→(∀a b,L=[a,b]→10*(a - 48)+(b - 48)=v)→pI (j0 n)=(v,true):=by
  intro L v hL hf hlen hv h1 h2;have hb:=hl L hL;have hsz:(strOfNums L).size=L.length:=strOfNums_size L;have hp:((pv (strOfNums L) L.length).1:Int)=v∧(pv (strOfNums L) L.length).2=L.length:=by
   rcases hlen with e | e
   · obtain⟨a,rfl⟩:∃a,L=[a]:=by
      match L,e with
      | [a],_=>exact⟨a,rfl⟩
     have q:=hb 0 (by simp)
     have e0:nth [a] 0=a:=rfl
     rw[e0] at q
     have:=h1 a rfl
     show ((pv (strOfNums [a]) 1).1:Int)=v∧(pv (strOfNums [a]) 1).2=1
     rw[bj7 _ 0 (by omega)]
     refine⟨?_,rfl⟩
     show ((10*0+(bt (strOfNums [a]) 0 - 48):Nat):Int)=v
     omega
   · obtain⟨a,b,rfl⟩:∃a b,L=[a,b]:=by
      match L,e with
      | [a,b],_=>exact⟨a,b,rfl⟩
     have q:=hb 0 (by simp)
     have q':=hb 1 (by simp)
     have e0:nth [a,b] 0=a:=rfl
     have e1:nth [a,b] 1=b:=rfl
     rw[e0] at q
     rw[e1] at q'
     have:=h2 a b rfl
     show ((pv (strOfNums [a,b]) 2).1:Int)=v∧(pv (strOfNums [a,b]) 2).2=2
     rw[bj7 _ 1 (by omega),bj7 _ 0 (by omega)]
     refine⟨?_,rfl⟩
     show ((10*(10*0+(bt (strOfNums [a,b]) 0 - 48))+(bt (strOfNums [a,b]) 1 - 48):Nat):Int)=v
     omega
  have h45:¬bt (strOfNums L) 0=45:=by
   have:=hb 0 (by omega);omega
  have hs:sgI (strOfNums L)=v:=by
   unfold sgI;rw[if_neg h45,hsz,show min L.length 11=L.length by omega];exact hp.1
  rw[hf];have:pI (strOfNums L)=(sgI (strOfNums L),true):=c80 ⟨by rw[hsz,show min L.length 11=L.length by omega,hp.2];omega,by omega,by rw[hs,hv,hf]⟩;rw[this,hs]
 by_cases h0:n=0
 · subst h0;exact key [48] 0 (by simp) rfl (Or.inl rfl) rfl (fun a e=>by cases e;rfl) (fun a b e=>by cases e)
 · have hd:j0 n=strOfNums (rd n).reverse:=(by rw[bl7 (by omega),b07]);by_cases h10:n<10
   · have e:rd n=[48+((n % 10:Nat):Int)]:=(by rw[V2 h0,show n / 10=0 by omega,Z1]);rw[e] at hd;exact key [48+((n % 10:Nat):Int)] n (fun x hx=>by rw[List.mem_singleton.1 hx];omega) hd (Or.inl rfl) rfl (fun a e=>by cases e;omega) (fun a b e=>by cases e)
   · have e:rd n=[48+((n % 10:Nat):Int),48+((n / 10 % 10:Nat):Int)]:=(by rw[V2 h0,V2 (by omega),show n / 10 / 10=0 by omega,Z1]);rw[e] at hd;exact key [48+((n / 10 % 10:Nat):Int),48+((n % 10:Nat):Int)] n (fun x hx=>by simp at hx;omega) hd (Or.inr rfl) rfl (fun a e=>by cases e) (fun a b e=>by cases e;omega)
end Go.Zz
namespace Go.Zz
open Go.RowKit Go.Proofs
set_option maxHeartbeats 1000000
set_option maxRecDepth 4000
theorem d53{n:Nat}(h0:0<n)(h:n<10):j0 (n:Int)=strOfNums [48+(n:Int)]:=by
 rw[bl7 h0,b07,V2 (by omega),show n / 10=0 by omega,Z1,show n % 10=n by omega];rfl
theorem cc6{c:Int}{d:UInt8}(h:¬(d.toNat:Int)=c):noC c ⟨#[d]⟩:=by
 intro b hb;simp at hb;subst hb;exact h
theorem cw2(l:List Int):∀(E:List Nat) (a:Nat),(∀x∈E,x<24∧K2 l x=true)→W3 l (E.map fun x:Nat=>j0 (x:Int)) a=some (E.foldl (fun a z=>a ||| 2 ^ z) a)
 | [],a,_=>rfl
 | x :: E,a,h=>by
  obtain⟨h1,h2⟩:=h x (by simp)
  have hp:=cv4 (n:=x) (by omega)
  rw[List.map_cons,d69 (n:=x) (by rw[hp]) (by rw[hp];exact h2) (by rw[hp]),cw2 l E _ (fun y hy=>h y (by simp[hy]))]
  rfl
theorem cs3{l:List Int}{n:Nat}(h:d8 l n=true)(h0:0<n):fsF l n=jn ⟨#[44]⟩ (fun i=>j0 (nth (d6 (j1 n)) i)) (d6 (j1 n)).length∧0<(d6 (j1 n)).length:=by
 obtain⟨m,e,-,hn,-⟩:=m3 h;have hnm:n=m:=by omega
 subst hnm;have hne:j1 n≠[]:=cr3 (by omega) hn;have hl:0<(d6 (j1 n)).length:=by rw[j8];exact List.length_pos_iff.2 hne
 refine⟨?_,hl⟩;rw[Y5 h];unfold I0;rw[if_neg (by omega)];rfl
theorem bb4{c:Int}(hc:c<44∨57<c){l:List Int}{n:Nat}(h:d8 l n=true)(h0:0<n):noC c (fsF l n):=by
 rw[(cs3 h h0).1];refine cu9 (cc6 ?_) _ (fun i _=>by1 (by omega) _);show ¬((44:Nat):Int)=c;omega
theorem cm4{l:List Int}{n:Nat}(h:d8 l n=true)(h0:0<n):psV l (fsF l n)=((n:Int),true):=by
 obtain⟨m,e,hg,hn,ho⟩:=m3 h;have hnm:n=m:=by omega
 subst hnm;have hnone:¬fsF l n=be6:=fun q=>by
  have:=bb4 (c:=110) (by omega) h h0
  rw[q] at this
  exact this 110 (by decide) rfl
 have hcut:B7 44 (fsF l n)=(j1 n).map fun x:Nat=>j0 (x:Int):=by
  rw[(cs3 h h0).1,de1 (c:=44) (d:=44) rfl _ _ (cs3 h h0).2 (fun i _=>by1 (by omega) _),j8];apply List.ext_getElem
  · simp
  · intro i h1 h2;simp at h1 h2;simp[nth,d6,List.getD,h2]
 have hps:W3 l (B7 44 (fsF l n)) 0=some n:=by
  rw[hcut,cw2 l _ 0 (fun x hx=>⟨G7 hx,?_⟩)]
  · exact congrArg some (d88 hn)
  · have h1:=G9 hg (E8.1 hx).2;unfold K2;rw[b01,Z9 ho];omega
 rw[dh8 hnone hps,if_pos rfl]
theorem da2{l:List Int}(h:c9 l=true)(h0:¬l.length=0):pgB (fgF l)=true∧pgV (fgF l)=l:=by
 have e:fgF l=jn ⟨#[120]⟩ (fun i=>j0 (nth l i)) l.length:=by rw[b18 h,if_neg h0];rfl
 have hcut:B7 120 (fgF l)=(List.range l.length).map fun i=>j0 (nth l i):=by
  rw[e];exact de1 (c:=120) (d:=120) rfl _ _ (by omega) (fun i _=>by1 (by omega) _)
 have hp:∀i,i<l.length→pI (j0 (nth l i))=(nth l i,true):=fun i hi=>by
  have:=E2 h hi
  obtain⟨m,hm⟩:=Int.eq_ofNat_of_zero_le (show 0≤nth l i by omega)
  rw[hm] at this ⊢
  exact cv4 (by omega)
 have hpi:pIs (B7 120 (fgF l))=l:=by
  rw[hcut];unfold pIs;rw[List.map_map];apply List.ext_getElem
  · simp
  · intro i h1 h2;have:=hp i h2;simp[this];simp[nth,List.getD,h2]
 have h1:¬fgF l=Q5:=fun q=>by
  have hc:B7 120 (fgF l)=[Q5]:=by rw[q];exact c20 (by intro b hb;simp[Q5] at hb;subst hb;decide)
  rw[hc] at hpi
  have e1:j0 ((1:Nat):Int)=Q5:=by rw[d53 (by omega) (by omega)];rfl
  have h2:pI Q5=(1,true):=by rw[←e1];exact cv4 (n:=1) (by omega)
  have h3:l=[1]:=by rw[←hpi];unfold pIs;rw[List.map_cons,h2];rfl
  have:=E2 h (j:=0) (by omega)
  rw[h3] at this
  exact absurd this.1 (by decide)
 have h2:¬fgF l=mtB:=fun q=>by
  have:(jn ⟨#[120]⟩ (fun i=>j0 (nth l i)) l.length).size=0:=by rw[←e,q];rfl
  have h3:=Y7 ⟨#[120]⟩ (fun i=>j0 (nth l i)) l.length (by omega) (fun i hi=>W7 (by have:=E2 h hi;omega))
  omega
 have:=cv8 h1 h2 (by rw[hpi]);exact⟨this.1,this.2.trans hpi⟩
end Go.Zz
namespace Go.Zz
open Go.RowKit Go.Proofs
set_option maxHeartbeats 400000
def cwB(k:Int):ByteArray :=
 if k=1 then ⟨#[115,117,109]⟩ else if k=2 then ⟨#[122,101,114,111]⟩ else if k=3 then ⟨#[102,114,101,101]⟩ else if k=4 then ⟨#[116,105,108,101]⟩
 else if k=5 then ⟨#[97,108,105,107,101]⟩ else if k=6 then ⟨#[99,111,108,111,114,115]⟩ else if k=7 then ⟨#[99,111,115,101,116]⟩ else ⟨#[]⟩
theorem C6(k:Int)(w:World) :
 Calls Tryz.prog 276 #[.int .i64 k] w fun e w'=>e=.returned (.string (cwB k))∧Ext w w':=by
 by_cases h:1≤k∧k≤7
 · have hin:=b01.2 h;have hE:=Ext.refl w;rcases (by omega:k=1∨k=2∨k=3∨k=4∨k=5∨k=6∨k=7) with rfl | rfl | rfl | rfl | rfl | rfl | rfl
   all_goals
    go_enter Tryz.func276,Tryz.ntmps276
    go_wp2_with (first | (go_at_call 206;refine (N9 _ _ _ _).mono ?_;rintro e w' ⟨rfl,rfl⟩))
    go_ret
    exact⟨rfl,hE.alloc _⟩
 · have hin:=bm1.2 h;have e:cwB k=⟨#[]⟩:=(by unfold cwB;rw[if_neg (by omega),if_neg (by omega),if_neg (by omega),if_neg (by omega),if_neg (by omega),if_neg (by omega),if_neg (by omega)]);have He:=Lib.hid e;clear e;go_enter Tryz.func276,Tryz.ntmps276;go_wp2_with (first | (go_at_call 206;refine (N9 _ _ _ _).mono ?_;rintro e w' ⟨rfl,rfl⟩));go_ret;exact⟨d9 He.out.symm,Ext.refl w⟩
theorem E5(k:Int)(w:World) :
 Calls Tryz.prog 51 #[.int .i64 k] w fun e w'=>e=.returned (.string (cwB k))∧Ext w w':=by
 by_cases h:1≤k∧k≤7
 · have hin:=b01.2 h;have hE:=Ext.refl w;rcases (by omega:k=1∨k=2∨k=3∨k=4∨k=5∨k=6∨k=7) with rfl | rfl | rfl | rfl | rfl | rfl | rfl
   all_goals
    go_enter Tryz.func51,Tryz.ntmps51
    go_wp2_with (first | (go_at_call 164;refine (U8 _ _ _ _).mono ?_;rintro e w' ⟨rfl,rfl⟩))
    go_ret
    exact⟨rfl,hE.alloc _⟩
 · have hin:=bm1.2 h;have e:cwB k=⟨#[]⟩:=(by unfold cwB;rw[if_neg (by omega),if_neg (by omega),if_neg (by omega),if_neg (by omega),if_neg (by omega),if_neg (by omega),if_neg (by omega)]);have He:=Lib.hid e;clear e;go_enter Tryz.func51,Tryz.ntmps51;go_wp2_with (first | (go_at_call 164;refine (U8 _ _ _ _).mono ?_;rintro e w' ⟨rfl,rfl⟩));go_ret;exact⟨d9 He.out.symm,Ext.refl w⟩
end Go.Zz
namespace Go.Zz
open Go.RowKit Go.Proofs
set_option maxHeartbeats 4000000
set_option maxRecDepth 20000
end Go.Zz
