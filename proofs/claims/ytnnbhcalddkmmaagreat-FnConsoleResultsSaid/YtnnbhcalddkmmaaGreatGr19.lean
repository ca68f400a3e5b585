/- SubgroupsOf of the reference. -/
import Derived.Test.YtnnbhcalddkmmaaGreatGr18
import Derived.Test.YtnnbhcalddkmmaaGreatGr10
import Derived.Test.YtnnbhcalddkmmaaGreatGr6
import Derived.Test.YtnnbhcalddkmmaaGreatGr4
import Derived.Deep.DeepCutAuto
import Derived.Test.YtnnbhcalddkmmaaGreatGr5
import Derived.Test.YtnnbhcalddkmmaaGreatGr1
import Derived.Test.YtnnbhcalddkmmaaGreatGr12
set_option linter.unusedSimpArgs false
set_option linter.unusedVariables false
set_option linter.unnecessarySimpa false
namespace Go.Zz
open Go.RowKit Go.Proofs
set_option maxHeartbeats 8000000
set_option maxRecDepth 20000
theorem c49(v:Value)(l:List Int)(w:World)(h:c8 w v l) :
 Calls Tryz.prog 55 #[.agg #[v]] w fun e w'=>∃ao L c,e=.returned (.tuple #[.slice ao (List.length L) c,.bool (c9 l)])∧Own 3 w w' (.slice ao (List.length L) c) (d6 L)∧L=(if c9 l then sgL l else [])∧Ext w w':=by
 obtain⟨wb,Hwb,hE0,hb,hg,hE,Hsz⟩:=j60 28 h;clear h;have hbx:=hb wb hE;cases hs:c9 l
 · go_enter Tryz.func55,Tryz.ntmps55;go_wp2_with fail;rw[←Hwb.out];have hEa:=(Ext.refl wb).alloc (.cells #[] 3);have hOut:=q5 (TI:=3) (n:=0) (by omega) hE0 [] rfl;rw[←Hsz.out] at hOut;change Own _ _ (wb.alloc (.cells #[] 3)) _ _ at hOut;refine (q9 _ _ _ (hg _ hEa)).mono ?_;rw[hs];rintro e w1 ⟨rfl,hE1⟩;go_wp2_with fail;exact bodyPost_ret (v:=.tuple #[.slice (some ⟨w.heap.size+1,0,none⟩) 0 0,.bool false]) (by simp[results,Tryz.results55,go_sem]) rfl ⟨_,[],_,rfl,hOut.ext hE1,rfl,hE0.trans (hEa.trans hE1)⟩
 · have hob:=l8 hs;have Hgr:=Lib.hid hs;have hcl:=c24 hs;have htl:=cz9 hs;go_enter Tryz.func55,Tryz.ntmps55;go_wp2_with fail;rw[←Hwb.out];have hEa:=(Ext.refl wb).alloc (.cells #[] 3);have hOut:=q5 (TI:=3) (n:=0) (by omega) hE0 [] rfl;rw[←Hsz.out] at hOut;change Own _ _ (wb.alloc (.cells #[] 3)) _ _ at hOut;refine (q9 _ _ _ (hg _ hEa)).mono ?_;rw[hs];rintro e w1 ⟨rfl,hE1⟩;replace hOut:=hOut.ext hE1;replace hE1:=hEa.trans hE1;have hCy:=q5 (TI:=3) (n:=0) (by omega) (hE0.trans hE1) [] rfl;change Own _ _ (w1.alloc (.cells #[] 3)) _ _ at hCy;have hE1a:=hE1.alloc (.cells #[] 3);have hba:=hb _ hE1a;go_wp2_with fail;refine (m4 _ _ _ (hg _ hE1a) Hgr).mono ?_;rintro e w2 ⟨rfl,hE2⟩;have hE02:=hE1a.trans hE2;replace hCy:=hCy.ext hE2;replace hOut:=(hOut.alloc (.cells #[] 3)).ext hE2;have hEw:=hE0.trans hE02;replace hb:=fun W (hW:Ext w2 W)=>hb W (hE02.trans hW);replace hg:=fun W (hW:Ext w2 W)=>hg W (hE02.trans hW);clear hE1 hE1a hba hE2 hbx hE;go_wp2_with fail;go_loopw [5,7] (fun s5 s7 wr=>∃(k:Nat) (ao:Option Addr) (c:Nat),k≤ord l∧s7=.int .i64 k∧s5=.slice ao (b68 l k).length c∧Own 3 w wr (.slice ao (b68 l k).length c) (d6 (b68 l k))∧Ext w2 wr) (fun _ s7 _=>ord l - (intOf s7).toNat);(case atStart=>exact⟨0,_,0,by omega,rfl,rfl,by simpa[b68,J4,d6] using hCy,Ext.refl _⟩);case round =>
    rename World=>wr;obtain⟨k,ao,c,hk,rfl,rfl,hI,hEr⟩:=hrel;by_cases hlt:k<ord l
    · have hltI:(k:Int)<(ord l:Int):=(by omega);have q1:=p0 (n:=k) (by omega);have hp:pw k<2 ^ 24:=Nat.pow_lt_pow_right (by omega) (show k<24 by omega);have cG:=fun W (hW:Ext wr W)=>b70 v l (pw k) W (hg W (hEr.trans hW)) Hgr hp;have hPl:(b68 l k).length≤24:=(by have:=W8 (fun x=>genF l (2 ^ x)) [] k;simp at this;have e:(b68 l k).length≤k:=this;omega);obtain⟨Y,hY⟩:∃Y,Y=genF l (pw k):=⟨_,rfl⟩;have Hn:Hid (b68 l (k+1)=L1 (b68 l k) Y):=Lib.hid (by rw[hY];exact Y4 _ _ _);obtain⟨P,hP⟩:∃P,P=b68 l k:=⟨_,rfl⟩;rw[←hY] at cG;rw[←hP] at hI hPl Hn;rw[←hP];obtain⟨pk,hpk⟩:∃x:Int,x=((pw k:Nat):Int):=⟨_,rfl⟩;rw[←hpk] at q1 cG;clear hY hP hp hpk;have hbr:=fun W (hW:Ext wr W)=>hb W (hEr.trans hW);have hEv:=hEw.trans hEr;go_wp2_with fail;refine wp_region_held_drew (S:=(fun W=>Ext wr W∧W.cell? ⟨w.heap.size,0,none⟩=some v)) (by kernel_rfl) (by exact⟨xq,hbr _ xq⟩) (fun hHeld=>?_);(refine tn 0 (v:=?_) (hy:=?_) (h:=?_));(rotate_left 1);(focus ((intro w hSw);(try dsimp only at hSw);go_simp;(try with_reducible rfl)));(try simp only[Act.put,s1,s2,s3,s4,s5,s6]);(refine tn 1 (v:=?_) (hy:=?_) (h:=?_));(rotate_left 1);(focus ((intro w hSw);(try dsimp only at hSw);go_simp;(try with_reducible rfl)));(try simp only[Act.put,s1,s2,s3,s4,s5,s6]);(refine tn 2 (v:=?_) (hy:=?_) (h:=?_));(rotate_left 1);(focus ((intro w hSw);(try dsimp only at hSw);go_simp;(try with_reducible rfl)));(try simp only[Act.put,s1,s2,s3,s4,s5,s6]);(refine tn 3 (v:=?_) (hy:=?_) (h:=?_));(rotate_left 1);(focus ((intro w hSw);(try dsimp only at hSw);go_simp;(first | done | with_reducible rfl | (rw[if_neg];(try simp only[ByteArray.size_append,ByteArray.size_mk,List.size_toArray,List.length_cons,List.length_nil]);omega) | trace_state)));(try simp only[Act.put,s1,s2,s3,s4,s5,s6]);refine t1 4 (h:=fun K hK=>?_);go_simp;(go_at_call 176;(with_reducible refine Calls.mono (cG _ xq) ?_);rintro e wx ⟨rfl,hX⟩;have hH:=Ext.trans (a:=wr) xq hX);refine hK.out _ _ (by exact⟨xq,hbr _ xq⟩) (fun hHeld=>?_);clear hK K;(try simp only[Act.put,s1,s2,s3,s4,s5,s6]);refine t1 5 (h:=fun K hK=>?_);go_simp;(go_at_call 175;(with_reducible refine Calls.mono (bt5 _ P Y w _ (hI.ext xq) (Ext.size (hEv.trans xq)) (by omega)) ?_);rintro e wy ⟨v4,rfl,hI4,hX4⟩;obtain⟨a4,c4,rfl⟩:=hI4.nshape;have hH4:=Ext.trans (a:=wr) xq hX4);rw[←Hn.out] at hI4 ⊢;refine hK.out _ _ (by exact⟨xq,hbr _ xq⟩) (fun hHeld=>?_);clear hK K;(try simp only[Act.put,s1,s2,s3,s4,s5,s6]);(refine tn 6 (v:=?_) (hy:=?_) (h:=?_));(rotate_left 1);(focus ((intro w hSw);(try dsimp only at hSw);go_simp;(try with_reducible rfl)));(try simp only[Act.put,s1,s2,s3,s4,s5,s6]);refine wpAnyH_done (by kernel_rfl) ?_ _;go_wp2_with fail;go_roundw;(case rel=>exact⟨k+1,a4,c4,by omega,by go_num,rfl,hI4,hEr.trans hH4⟩);case measure=>(simp[intOf];omega)
    · have hkl:k=ord l:=(by omega);subst hkl;have hltI:¬((ord l:Nat):Int)<(ord l:Int):=(by omega);obtain⟨aoC,cC,adrC,hvC,hadrC,hcellC⟩:=(show Own 3 w wr (.slice ao (Q3 l).length c) (d6 (Q3 l)) from hI).ints.nats;simp only[Value.slice.injEq] at hvC;obtain⟨rfl,-,rfl⟩:=hvC;have hClt:∀q,d5 (Q3 l) q<2 ^ 24:=fun q=>Nat.lt_of_lt_of_le (d62 Hgr.out (fun x hx=>j00 Hgr.out hx) q) (E1 Hgr.out);have Htwo:Hid (b14 l=O7 l (Q3 l) (Q3 l).length):=Lib.hid rfl;have Hsg:Hid (sgL l=O9 l (b14 l) (Q3 l) (b14 l).length):=Lib.hid rfl;rw[show b68 l (ord l)=Q3 l from rfl];obtain⟨C,hC⟩:∃C,C=Q3 l:=⟨_,rfl⟩;rw[←hC] at hadrC hcellC hClt Htwo Hsg hcl ⊢;have hix:=j6 (c:=c) elI szI hadrC;have Hcell:=Lib.hid hcellC;replace hb:=fun W (hW:Ext wr W)=>hb W (hEr.trans hW);replace hg:=fun W (hW:Ext wr W)=>hg W (hEr.trans hW);have hE0r:=hE0.trans (hE02.trans hEr);replace hOut:=hOut.ext hEr;clear hI hadrC hcellC hC hEr hlt hk hltI hs;go_wp2_with fail;go_loopw [4,8] (fun s4 s8 wq=>∃(i:Nat) (ao:Option Addr) (c:Nat),i≤C.length∧s8=.int .i64 i∧s4=.slice ao (O7 l C i).length c∧Own 3 w wq (.slice ao (O7 l C i).length c) (d6 (O7 l C i))∧Ext wr wq) (fun _ s8 _=>C.length - (intOf s8).toNat);(case atStart=>exact⟨0,_,0,by omega,rfl,rfl,by simpa[O7,d6] using hOut,Ext.refl _⟩);case round =>
       rename World=>wq;obtain⟨i,ao,c,hi,rfl,rfl,hI,hEq⟩:=hrel;by_cases hlt:i<C.length
       · have hltI:(i:Int)<(C.length:Int):=(by omega);have hpl:=bu2 l C i;have hpm:i*i≤576:=Nat.mul_le_mul (show i≤24 by omega) (show i≤24 by omega);go_wp2_with fail;go_loopw [4,9] (fun s4 s9 wp=>∃(j:Nat) (ao:Option Addr) (c:Nat),j≤i+1∧s9=.int .i64 j∧s4=.slice ao (J4 (fun j=>j3 l (d5 C i) (d5 C j)) (O7 l C i) j).length c∧Own 3 w wp (.slice ao (J4 (fun j=>j3 l (d5 C i) (d5 C j)) (O7 l C i) j).length c) (d6 (J4 (fun j=>j3 l (d5 C i) (d5 C j)) (O7 l C i) j))∧Ext wq wp) (fun _ s9 _=>i+1 - (intOf s9).toNat);(case atStart=>exact⟨0,ao,c,by omega,rfl,rfl,hI,Ext.refl _⟩);case round =>
          rename World=>wp;obtain⟨j,ao,c,hj,rfl,rfl,hI,hEp⟩:=hrel;by_cases hjt:j<i+1
          · have hjI:(j:Int)≤(i:Int):=(by omega);have hjC:j<C.length:=(by omega);have hck:=fun W (hW:Ext wp W)=>Hcell.out i W hlt (hEq.trans (hEp.trans hW));have hcj:=fun W (hW:Ext wp W)=>Hcell.out j W hjC (hEq.trans (hEp.trans hW));have hxi:=hix i;have hxj:=hix j;have cS:=fun W (hW:Ext wp W)=>E4 v l (d5 C i) (d5 C j) W (hg W (hEq.trans (hEp.trans hW))) Hgr (hClt i) (hClt j);have hPl:=W8 (fun j=>j3 l (d5 C i) (d5 C j)) (O7 l C i) j;have Hn:Hid (J4 (fun j=>j3 l (d5 C i) (d5 C j)) (O7 l C i) (j+1)=L1 (J4 (fun j=>j3 l (d5 C i) (d5 C j)) (O7 l C i) j) (j3 l (d5 C i) (d5 C j))):=Lib.hid (Y4 _ _ _);have hjl:(j:Int)<(C.length:Int):=(by omega);obtain⟨Y,hY⟩:∃Y,Y=j3 l (d5 C i) (d5 C j):=⟨_,rfl⟩;obtain⟨P,hP⟩:∃P,P=J4 (fun j=>j3 l (d5 C i) (d5 C j)) (O7 l C i) j:=⟨_,rfl⟩
            rw[←hP,←hY] at Hn;rw[←hP] at hI hPl ⊢;rw[←hY] at cS;obtain⟨X1,hX1⟩:∃X,X=d5 C i:=⟨_,rfl⟩;obtain⟨X2,hX2⟩:∃X,X=d5 C j:=⟨_,rfl⟩;rw[←hX1] at hck cS;rw[←hX2] at hcj cS;clear hY hP hX1 hX2;have hbr:=fun W (hW:Ext wp W)=>hb W (hEq.trans (hEp.trans hW));have hEv:=hE0r.trans (hEq.trans hEp);go_wp2_with fail;refine wp_region_held_drew (S:=(fun W=>Ext wp W∧W.cell? ⟨w.heap.size,0,none⟩=some v∧W.cell? (adrC i)=some (.int .i64 X1)∧W.cell? (adrC j)=some (.int .i64 X2))) (by kernel_rfl) (by exact⟨xq,hbr _ xq,hck _ xq,hcj _ xq⟩) (fun hHeld=>?_);(refine tn 0 (v:=?_) (hy:=?_) (h:=?_));(rotate_left 1);(focus ((intro w hSw);(try dsimp only at hSw);go_simp;(try with_reducible rfl)));(try simp only[Act.put,s1,s2,s3,s4,s5,s6]);(refine tn 1 (v:=?_) (hy:=?_) (h:=?_));(rotate_left 1);(focus ((intro w hSw);(try dsimp only at hSw);go_simp;(try with_reducible rfl)));(try simp only[Act.put,s1,s2,s3,s4,s5,s6]);(refine tn 2 (v:=?_) (hy:=?_) (h:=?_));(rotate_left 1);(focus ((intro w hSw);(try dsimp only at hSw);go_simp;(try with_reducible rfl)));(try simp only[Act.put,s1,s2,s3,s4,s5,s6]);(refine tn 3 (v:=?_) (hy:=?_) (h:=?_));(rotate_left 1);(focus ((intro w hSw);(try dsimp only at hSw);go_simp;(try with_reducible rfl)));(try simp only[Act.put,s1,s2,s3,s4,s5,s6]);(refine tn 4 (v:=?_) (hy:=?_) (h:=?_));(rotate_left 1);(focus ((intro w hSw);(try dsimp only at hSw);go_simp;(try with_reducible rfl)));(try simp only[Act.put,s1,s2,s3,s4,s5,s6]);(refine tn 5 (v:=?_) (hy:=?_) (h:=?_));(rotate_left 1);(focus ((intro w hSw);(try dsimp only at hSw);go_simp;(try with_reducible rfl)));(try simp only[Act.put,s1,s2,s3,s4,s5,s6]);(refine tn 6 (v:=?_) (hy:=?_) (h:=?_));(rotate_left 1);(focus ((intro w hSw);(try dsimp only at hSw);go_simp;(try with_reducible rfl)));(try simp only[Act.put,s1,s2,s3,s4,s5,s6]);(refine tn 7 (v:=?_) (hy:=?_) (h:=?_));(rotate_left 1);(focus ((intro w hSw);(try dsimp only at hSw);go_simp;(try with_reducible rfl)));(try simp only[Act.put,s1,s2,s3,s4,s5,s6]);(refine tn 8 (v:=?_) (hy:=?_) (h:=?_));(rotate_left 1);(focus ((intro w hSw);(try dsimp only at hSw);go_simp;(try with_reducible rfl)));(try simp only[Act.put,s1,s2,s3,s4,s5,s6]);(refine tn 9 (v:=?_) (hy:=?_) (h:=?_));(rotate_left 1);(focus ((intro w hSw);(try dsimp only at hSw);go_simp;(try with_reducible rfl)));(try simp only[Act.put,s1,s2,s3,s4,s5,s6]);refine t1 10 (h:=fun K hK=>?_);go_simp;(go_at_call 49;(with_reducible refine Calls.mono (cS _ xq) ?_);rintro e wx ⟨rfl,hX⟩;have hH:=Ext.trans (a:=wp) xq hX);refine hK.out _ _ (by exact⟨xq,hbr _ xq,hck _ xq,hcj _ xq⟩) (fun hHeld=>?_);clear hK K;(try simp only[Act.put,s1,s2,s3,s4,s5,s6]);refine t1 11 (h:=fun K hK=>?_);go_simp;(go_at_call 175;(with_reducible refine Calls.mono (bt5 _ P Y w _ (hI.ext xq) (Ext.size (hEv.trans xq)) (by omega)) ?_);rintro e wy ⟨v4,rfl,hI4,hX4⟩;obtain⟨a4,c4,rfl⟩:=hI4.nshape;have hH4:=Ext.trans (a:=wp) xq hX4);rw[←Hn.out] at hI4 ⊢;refine hK.out _ _ (by exact⟨xq,hbr _ xq,hck _ xq,hcj _ xq⟩) (fun hHeld=>?_);clear hK K;(try simp only[Act.put,s1,s2,s3,s4,s5,s6]);(refine tn 12 (v:=?_) (hy:=?_) (h:=?_));(rotate_left 1);(focus ((intro w hSw);(try dsimp only at hSw);go_simp;(try with_reducible rfl)));(try simp only[Act.put,s1,s2,s3,s4,s5,s6]);refine wpAnyH_done (by kernel_rfl) ?_ _;go_wp2_with fail;go_roundw;(case rel=>exact⟨j+1,a4,c4,by omega,by go_num,rfl,hI4,hEp.trans hH4⟩);case measure=>(simp[intOf];omega)
          · have hji:j=i+1:=(by omega);subst hji;have hjI:¬((i+1:Nat):Int)≤(i:Int):=(by omega);go_wp2_with fail;go_roundw;(case rel=>exact⟨i+1,ao,c,by omega,by go_num,rfl,hI,hEq.trans hEp⟩);case measure=>(simp[intOf];omega)
       · have hil:i=C.length:=(by omega);subst hil;have hltI:¬((C.length:Nat):Int)<(C.length:Int):=(by omega);rw[←Htwo.out] at hI ⊢;obtain⟨aoT,cT,adrT,hvT,hadrT,hcellT⟩:=hI.ints.nats;simp only[Value.slice.injEq] at hvT;obtain⟨rfl,-,rfl⟩:=hvT;have hTlt:∀q,d5 (b14 l) q<2 ^ 24:=fun q=>Nat.lt_of_lt_of_le (d62 Hgr.out (dy7 Hgr.out) q) (E1 Hgr.out);obtain⟨T,hT⟩:∃T,T=b14 l:=⟨_,rfl⟩;rw[←hT] at hI hadrT hcellT hTlt Hsg htl ⊢;have hixT:=j6 (c:=c) elI szI hadrT;have HcT:=Lib.hid hcellT;replace Hcell:Hid (∀i W,i<C.length→Ext wq W→W.cell? (adrC i)=some (.int .i64 (d5 C i:Int))):=Lib.hid (fun i W hi hW=>Hcell.out i W hi (hEq.trans hW));replace hb:=fun W (hW:Ext wq W)=>hb W (hEq.trans hW);replace hg:=fun W (hW:Ext wq W)=>hg W (hEq.trans hW);have hE0q:=hE0r.trans hEq;clear hadrT hcellT hT Htwo hE0r;go_wp2_with fail;go_loopw [4,11] (fun s4 s8 wp=>∃(i:Nat) (ao:Option Addr) (c:Nat),i≤T.length∧s8=.int .i64 i∧s4=.slice ao (O9 l T C i).length c∧Own 3 w wp (.slice ao (O9 l T C i).length c) (d6 (O9 l T C i))∧Ext wq wp) (fun _ s8 _=>T.length - (intOf s8).toNat);(case atStart=>exact⟨0,_,_,by omega,rfl,rfl,hI,Ext.refl _⟩);case round =>
          rename World=>wp;obtain⟨i,ao,c,hi,rfl,rfl,hI,hEp⟩:=hrel;by_cases hlt:i<T.length
          · have hltI:(i:Int)<(T.length:Int):=(by omega);have hpl:=bw5 l T C i;have hpm:i*C.length≤13824:=Nat.mul_le_mul (show i≤576 by omega) hcl;go_wp2_with fail;go_loopw [4,12] (fun s4 s9 wz=>∃(j:Nat) (ao:Option Addr) (c:Nat),j≤C.length∧s9=.int .i64 j∧s4=.slice ao (J4 (fun j=>j3 l (d5 T i) (d5 C j)) (O9 l T C i) j).length c∧Own 3 w wz (.slice ao (J4 (fun j=>j3 l (d5 T i) (d5 C j)) (O9 l T C i) j).length c) (d6 (J4 (fun j=>j3 l (d5 T i) (d5 C j)) (O9 l T C i) j))∧Ext wp wz) (fun _ s9 _=>C.length - (intOf s9).toNat);(case atStart=>exact⟨0,ao,c,by omega,rfl,rfl,hI,Ext.refl _⟩);case round =>
             rename World=>wz;obtain⟨j,ao,c,hj,rfl,rfl,hI,hEz⟩:=hrel;by_cases hjt:j<C.length
             · have hjI:(j:Int)<(C.length:Int):=(by omega);have hck:=fun W (hW:Ext wz W)=>HcT.out i W hlt (hEp.trans (hEz.trans hW));have hcj:=fun W (hW:Ext wz W)=>Hcell.out j W hjt (hEp.trans (hEz.trans hW));have hxi:=hixT i;have hxj:=hix j;have cS:=fun W (hW:Ext wz W)=>E4 v l (d5 T i) (d5 C j) W (hg W (hEp.trans (hEz.trans hW))) Hgr (hTlt i) (hClt j);have hPl:=W8 (fun j=>j3 l (d5 T i) (d5 C j)) (O9 l T C i) j;have Hn:Hid (J4 (fun j=>j3 l (d5 T i) (d5 C j)) (O9 l T C i) (j+1)=L1 (J4 (fun j=>j3 l (d5 T i) (d5 C j)) (O9 l T C i) j) (j3 l (d5 T i) (d5 C j))):=Lib.hid (Y4 _ _ _);obtain⟨Y,hY⟩:∃Y,Y=j3 l (d5 T i) (d5 C j):=⟨_,rfl⟩;obtain⟨P,hP⟩:∃P,P=J4 (fun j=>j3 l (d5 T i) (d5 C j)) (O9 l T C i) j:=⟨_,rfl⟩
               rw[←hP,←hY] at Hn;rw[←hP] at hI hPl ⊢;rw[←hY] at cS;obtain⟨X1,hX1⟩:∃X,X=d5 T i:=⟨_,rfl⟩;obtain⟨X2,hX2⟩:∃X,X=d5 C j:=⟨_,rfl⟩;rw[←hX1] at hck cS;rw[←hX2] at hcj cS;clear hY hP hX1 hX2;have hbr:=fun W (hW:Ext wz W)=>hb W (hEp.trans (hEz.trans hW));have hEv:=hE0q.trans (hEp.trans hEz);go_wp2_with fail;refine wp_region_held_drew (S:=(fun W=>Ext wz W∧W.cell? ⟨w.heap.size,0,none⟩=some v∧W.cell? (adrT i)=some (.int .i64 X1)∧W.cell? (adrC j)=some (.int .i64 X2))) (by kernel_rfl) (by exact⟨xq,hbr _ xq,hck _ xq,hcj _ xq⟩) (fun hHeld=>?_);(refine tn 0 (v:=?_) (hy:=?_) (h:=?_));(rotate_left 1);(focus ((intro w hSw);(try dsimp only at hSw);go_simp;(try with_reducible rfl)));(try simp only[Act.put,s1,s2,s3,s4,s5,s6]);(refine tn 1 (v:=?_) (hy:=?_) (h:=?_));(rotate_left 1);(focus ((intro w hSw);(try dsimp only at hSw);go_simp;(try with_reducible rfl)));(try simp only[Act.put,s1,s2,s3,s4,s5,s6]);(refine tn 2 (v:=?_) (hy:=?_) (h:=?_));(rotate_left 1);(focus ((intro w hSw);(try dsimp only at hSw);go_simp;(try with_reducible rfl)));(try simp only[Act.put,s1,s2,s3,s4,s5,s6]);(refine tn 3 (v:=?_) (hy:=?_) (h:=?_));(rotate_left 1);(focus ((intro w hSw);(try dsimp only at hSw);go_simp;(try with_reducible rfl)));(try simp only[Act.put,s1,s2,s3,s4,s5,s6]);(refine tn 4 (v:=?_) (hy:=?_) (h:=?_));(rotate_left 1);(focus ((intro w hSw);(try dsimp only at hSw);go_simp;(try with_reducible rfl)));(try simp only[Act.put,s1,s2,s3,s4,s5,s6]);(refine tn 5 (v:=?_) (hy:=?_) (h:=?_));(rotate_left 1);(focus ((intro w hSw);(try dsimp only at hSw);go_simp;(try with_reducible rfl)));(try simp only[Act.put,s1,s2,s3,s4,s5,s6]);(refine tn 6 (v:=?_) (hy:=?_) (h:=?_));(rotate_left 1);(focus ((intro w hSw);(try dsimp only at hSw);go_simp;(try with_reducible rfl)));(try simp only[Act.put,s1,s2,s3,s4,s5,s6]);(refine tn 7 (v:=?_) (hy:=?_) (h:=?_));(rotate_left 1);(focus ((intro w hSw);(try dsimp only at hSw);go_simp;(try with_reducible rfl)));(try simp only[Act.put,s1,s2,s3,s4,s5,s6]);(refine tn 8 (v:=?_) (hy:=?_) (h:=?_));(rotate_left 1);(focus ((intro w hSw);(try dsimp only at hSw);go_simp;(try with_reducible rfl)));(try simp only[Act.put,s1,s2,s3,s4,s5,s6]);(refine tn 9 (v:=?_) (hy:=?_) (h:=?_));(rotate_left 1);(focus ((intro w hSw);(try dsimp only at hSw);go_simp;(try with_reducible rfl)));(try simp only[Act.put,s1,s2,s3,s4,s5,s6]);refine t1 10 (h:=fun K hK=>?_);go_simp;(go_at_call 49;(with_reducible refine Calls.mono (cS _ xq) ?_);rintro e wx ⟨rfl,hX⟩;have hH:=Ext.trans (a:=wz) xq hX);refine hK.out _ _ (by exact⟨xq,hbr _ xq,hck _ xq,hcj _ xq⟩) (fun hHeld=>?_);clear hK K;(try simp only[Act.put,s1,s2,s3,s4,s5,s6]);refine t1 11 (h:=fun K hK=>?_);go_simp;(go_at_call 175;(with_reducible refine Calls.mono (bt5 _ P Y w _ (hI.ext xq) (Ext.size (hEv.trans xq)) (by omega)) ?_);rintro e wy ⟨v4,rfl,hI4,hX4⟩;obtain⟨a4,c4,rfl⟩:=hI4.nshape;have hH4:=Ext.trans (a:=wz) xq hX4);rw[←Hn.out] at hI4 ⊢;refine hK.out _ _ (by exact⟨xq,hbr _ xq,hck _ xq,hcj _ xq⟩) (fun hHeld=>?_);clear hK K;(try simp only[Act.put,s1,s2,s3,s4,s5,s6]);(refine tn 12 (v:=?_) (hy:=?_) (h:=?_));(rotate_left 1);(focus ((intro w hSw);(try dsimp only at hSw);go_simp;(try with_reducible rfl)));(try simp only[Act.put,s1,s2,s3,s4,s5,s6]);refine wpAnyH_done (by kernel_rfl) ?_ _;go_wp2_with fail;go_roundw;(case rel=>exact⟨j+1,a4,c4,by omega,by go_num,rfl,hI4,hEz.trans hH4⟩);case measure=>(simp[intOf];omega)
             · have hji:j=C.length:=(by omega);subst hji;have hjI:¬((C.length:Nat):Int)<(C.length:Int):=(by omega);go_wp2_with fail;go_roundw;(case rel=>exact⟨i+1,ao,c,by omega,by go_num,rfl,hI,hEp.trans hEz⟩);case measure=>(simp[intOf];omega)
          · have hil:i=T.length:=(by omega);subst hil;have hltI:¬((T.length:Nat):Int)<(T.length:Int):=(by omega);go_wp2_with fail;rw[←Hsg.out] at hI ⊢;exact bodyPost_ret (v:=.tuple #[.slice ao (sgL l).length c,.bool true]) (by simp[results,Tryz.results55,go_sem]) rfl ⟨_,sgL l,_,rfl,hI,rfl,hE0q.trans hEp⟩
end Go.Zz
namespace Go.Zz
set_option maxHeartbeats 1000000
set_option linter.unusedVariables false
set_option maxRecDepth 100000
theorem dn9{l:List Int}(h:M9 l)(h0:0<ord l)(x:Nat):∀n,L9 l x n<ord l
 | 0=>h0
 | n+1=>E9 l h _ _
theorem bz7{l:List Int}(h:M9 l){x:Nat}(hx:x<ord l):j9 l x 0=x:=by rw[C8];exact C5 l h x hx
theorem dn8{l:List Int}(h:M9 l){x:Nat}(hx:x<ord l):L9 l x 1=x:=C5 l h x hx
def lcT(l:List Int)(I P:List Nat):Nat→Nat
 | 0=>0
 | k+1=>j9 l (lcT l I P k) (L9 l (d5 I k) (d5 P k))
def exV(l:List Int)(I:List Nat)(x:Nat):Nat:=lcT l I (plP l x l.length) l.length
def U7(l:List Int)(I:List Nat):List Nat:=(List.range (ord l)).map (exV l I)
theorem cr4(l:List Int)(I:List Nat):(U7 l I).length=ord l:=by simp[U7]
theorem c73{l:List Int}(h:c9 l=true)(I P:List Nat)(k:Nat):lcT l I P k<ord l:=by
 have:=l8 h;cases k with
 | zero=>show 0<ord l;omega
 | succ k=>exact E9 l (m0 h) _ _
theorem c27{l:List Int}(I:List Nat){x:Nat}(hx:x<ord l):d5 (U7 l I) x=exV l I x:=by
 simp[d5,U7,List.getD,hx]
theorem d50{l:List Int}(h:c9 l=true)(I:List Nat):∀y∈U7 l I,y<ord l:=by
 intro y hy;obtain⟨x,-,rfl⟩:=List.mem_map.1 hy;exact c73 h _ _ _
theorem cg7(l:List Int)(I:List Nat){x:Nat}:(List.range (x+1)).map (exV l I)=(List.range x).map (exV l I)++[exV l I x]:=by
 rw[List.range_succ,List.map_append];rfl
def hmE(l:List Int)(F:List Nat)(x y:Nat):Bool:=decide (d5 F (j9 l x y)=j9 l (d5 F x) (d5 F y))
def b47(l:List Int)(F:List Nat):Bool:=(List.range (ord l)).all fun x=>(List.range (ord l)).all fun y=>hmE l F x y
theorem bl9{l:List Int}{F:List Nat}:b47 l F=true↔∀x y,x<ord l→y<ord l→hmE l F x y=true:=by
 unfold b47;simp only[List.all_eq_true,List.mem_range];constructor
 · intro H x y h1 h2;exact H x h1 y h2
 · intro H x h1 y h2;exact H x y h1 h2
theorem d57{l:List Int}{F:List Nat}{x y:Nat}(h1:x<ord l)(h2:y<ord l)(e:hmE l F x y=false):b47 l F=false:=by
 rw[←Bool.not_eq_true,bl9];intro H;rw[H x y h1 h2] at e;cases e
def S7(l:List Int)(F:List Nat):Bool:=soB l (d6 F)&&(decide (soV l (d6 F)=(j4 l:Int))&&b47 l F)
def by6(m k:Nat):List Nat:=(List.replicate m 0).set k 1
def bi3(l:List Int):Bool:=(List.range l.length).all fun k=>(List.range (ord l)).any fun e=>decide (plP l e l.length=by6 l.length k)&&decide (L9 l e (nth l k).toNat=0)
theorem gc0:bi3 []=true:=by decide +kernel
theorem gc1:((List.range 10).all fun a=>decide (a<2) || bi3 [(a:Int)])=true:=by decide +kernel
theorem gc2:((List.range 10).all fun a=>decide (a<2) || (List.range 10).all fun b=>decide (b<2) || (decide (9<a*b) || bi3 [(a:Int),(b:Int)]))=true:=by decide +kernel
theorem gc3:((List.range 10).all fun a=>decide (a<2) || (List.range 10).all fun b=>decide (b<2) || (decide (4<a*b) || (List.range 10).all fun c=>decide (c<2) || (decide (9<a*b*c) || bi3 [(a:Int),(b:Int),(c:Int)])))=true:=by decide +kernel
theorem U9{p:Prop}[Decidable p]{b:Bool}(h:(decide p || b)=true)(hn:¬p):b=true:=by
 rw[decide_eq_false hn] at h;simpa using h
theorem rgA{p:Nat→Bool}(h:(List.range 10).all p=true){a:Nat}(ha:a≤9):p a=true:=List.all_eq_true.1 h a (List.mem_range.2 (by omega))
theorem dv4{l:List Int}(h:c9 l=true)(h9:ord l≤9):bi3 l=true:=by
 have hc:=bm9 h;obtain⟨h3,hn,hp⟩:=(R3 l).1 h;have hp:C4 l≤9:=by omega
 clear hc;match l,h3,hn,hp with
 | [],_,_,_=>exact gc0
 | [a],_,hn,hp =>
  have h0:2≤a∧a≤24:=hn 0 (by simp);have hp:a≤9:=by simpa[C4] using hp
  have:=U9 (rgA gc1 (a:=a.toNat) (by omega)) (by omega);rwa [show ((a.toNat:Nat):Int)=a by omega] at this
 | [a,b],_,hn,hp =>
  have h0:2≤a∧a≤24:=hn 0 (by simp);have h1:2≤b∧b≤24:=hn 1 (by simp);have hpr:a*b≤9:=by simpa[C4] using hp
  have e:((a.toNat*b.toNat:Nat):Int)=a*b:=by rw[Int.natCast_mul];congr 1<;>omega
  have q1:a*2≤a*b:=Int.mul_le_mul_of_nonneg_left h1.1 (by omega);have q2:2*b≤a*b:=Int.mul_le_mul_of_nonneg_right h0.1 (by omega);have:=U9 (U9 (rgA (U9 (rgA gc2 (a:=a.toNat) (by omega)) (by omega)) (a:=b.toNat) (by omega)) (by omega)) (by omega);rwa [show ((a.toNat:Nat):Int)=a by omega,show ((b.toNat:Nat):Int)=b by omega] at this
 | [a,b,c],_,hn,hp =>
  have h0:2≤a∧a≤24:=hn 0 (by simp);have h1:2≤b∧b≤24:=hn 1 (by simp);have h2:2≤c∧c≤24:=hn 2 (by simp);have hpr:a*b*c≤9:=by rw[Int.mul_assoc];simpa[C4] using hp
  have e:((a.toNat*b.toNat*c.toNat:Nat):Int)=a*b*c:=by rw[Int.natCast_mul,Int.natCast_mul];congr 1;congr 1<;>omega;omega
  have e2:((a.toNat*b.toNat:Nat):Int)=a*b:=by rw[Int.natCast_mul];congr 1<;>omega
  have q0:2*2≤a*b:=Int.mul_le_mul h0.1 h1.1 (by omega) (by omega);have q1:a*b*2≤a*b*c:=Int.mul_le_mul_of_nonneg_left h2.1 (by omega);have q2:4*c≤a*b*c:=Int.mul_le_mul_of_nonneg_right (by omega) (by omega);have q3:a*2≤a*b:=Int.mul_le_mul_of_nonneg_left h1.1 (by omega);have q4:2*b≤a*b:=Int.mul_le_mul_of_nonneg_right h0.1 (by omega);have u:=rgA (U9 (rgA gc3 (a:=a.toNat) (by omega)) (by omega)) (a:=b.toNat) (by omega);have:=U9 (U9 (rgA (U9 (U9 u (by omega)) (by omega)) (a:=c.toNat) (by omega)) (by omega)) (by omega);rwa [show ((a.toNat:Nat):Int)=a by omega,show ((b.toNat:Nat):Int)=b by omega,show ((c.toNat:Nat):Int)=c by omega] at this
 | _ :: _ :: _ :: _ :: _,h3,_,_=>simp at h3
theorem dk0{m k j:Nat}(hj:j<m):d5 (by6 m k) j=if k=j then 1 else 0:=by
 unfold d5 by6;rw[List.getD_eq_getElem?_getD,List.getElem?_set];by_cases e:k=j
 · subst e;simp[hj]
 · simp[e,hj]
theorem dn3{l:List Int}(h:c9 l=true){I:List Nat}{m k:Nat}(hk:k<m)(hI:d5 I k<ord l) :
 ∀j,j≤m→lcT l I (by6 m k) j=if k<j then d5 I k else 0:=by
 have ho:=m0 h;have h1:=l8 h;intro j;induction j with
 | zero=>intro _;rfl
 | succ j ih =>
  intro hj;show j9 l (lcT l I (by6 m k) j) (L9 l (d5 I j) (d5 (by6 m k) j))=_;rw[ih (by omega),dk0 (by omega)];by_cases e:k=j
  · subst e;rw[if_neg (by omega),if_pos rfl,if_pos (by omega),dn8 ho hI];exact C5 l ho _ hI
  · rw[if_neg e];by_cases e2:k<j
    · rw[if_pos e2,if_pos (by omega)];exact bz7 ho hI
    · rw[if_neg e2,if_neg (by omega)];exact C5 l ho 0 (by omega)
def T6(l:List Int)(I:List Nat):Nat→Bool
 | 0=>true
 | k+1=>T6 l I k&&decide (L9 l (d5 I k) (nth l k).toNat=0)
theorem cg8{l:List Int}{I:List Nat}:∀{m:Nat},T6 l I m=true↔∀k,k<m→L9 l (d5 I k) (nth l k).toNat=0
 | 0=>by simp[T6]
 | m+1=>by
  unfold T6
  rw[Bool.and_eq_true,cg8,decide_eq_true_eq]
  constructor
  · rintro⟨h1,h2⟩ k hk
    by_cases e:k=m
    · rw[e];exact h2
    · exact h1 k (by omega)
  · intro H;exact⟨fun k hk=>H k (by omega),H m (by omega)⟩
theorem dl0{l:List Int}(h:c9 l=true)(h9:ord l≤9){I:List Nat}(hI:∀k,k<l.length→d5 I k<ord l)(ha:S7 l (U7 l I)=true):T6 l I l.length=true:=by
 have ho:=m0 h;have h1:=l8 h;have hh:b47 l (U7 l I)=true:=by unfold S7 at ha;simp only[Bool.and_eq_true] at ha;exact ha.2.2
 have hom:∀x y,x<ord l→y<ord l→exV l I (j9 l x y)=j9 l (exV l I x) (exV l I y):=fun x y hx hy=>by
  have:=bl9.1 hh x y hx hy
  unfold hmE at this
  rw[decide_eq_true_eq,c27 I (E9 l ho x y),c27 I hx,c27 I hy] at this
  exact this
 have hlt:∀x,exV l I x<ord l:=fun x=>c73 h _ _ _;have h0:exV l I 0=0:=by
  have:=hom 0 0 (by omega) (by omega);rw[C5 l ho 0 (by omega)] at this;refine S6 ho (hlt 0) (show 0<ord l by omega) ?_ (x:=exV l I 0);rw[←this,bz7 ho (hlt 0)]
 have hm:∀e n,e<ord l→exV l I (L9 l e n)=L9 l (exV l I e) n:=by
  intro e n he;induction n with
  | zero=>exact h0
  | succ n ih =>
   show exV l I (j9 l (L9 l e n) e)=j9 l (L9 l (exV l I e) n) (exV l I e);rw[hom _ _ (dn9 ho (by omega) e n) he,ih]
 rw[cg8];intro k hk;have g:=dv4 h h9;unfold bi3 at g;rw[List.all_eq_true] at g;have g2:=g k (List.mem_range.2 hk);rw[List.any_eq_true] at g2;obtain⟨e,he,g3⟩:=g2;rw[Bool.and_eq_true,decide_eq_true_eq,decide_eq_true_eq] at g3;have he:=List.mem_range.1 he;have hv:exV l I e=d5 I k:=by
  unfold exV;rw[g3.1,dn3 h hk (hI k hk) _ (Nat.le_refl _),if_pos hk]
 have:=hm e (nth l k).toNat he;rw[g3.2,h0,hv] at this;exact this.symm
def J6(f:Nat→Nat):Nat→Nat
 | 0=>0
 | k+1=>J6 f k+f k
theorem b82{f g:Nat→Nat}{n:Nat}(h:∀k,k<n→f k=g k):J6 f n=J6 g n:=by
 induction n with
 | zero=>rfl
 | succ n ih=>show J6 f n+f n=J6 g n+g n;rw[ih (fun k hk=>h k (by omega)),h n (by omega)]
theorem cy6(f:Nat→Nat)(a:Nat):∀b,J6 f (a+b)=J6 f a+J6 (fun c=>f (a+c)) b
 | 0=>rfl
 | b+1=>by show J6 f (a+b)+f (a+b)=J6 f a+(J6 (fun c=>f (a+c)) b+f (a+b));rw[cy6 f a b];omega
theorem cy7(f:Nat→Nat)(M:Nat):∀n,J6 f (M*n)=J6 (fun x=>J6 (fun c=>f (c+M*x)) M) n
 | 0=>rfl
 | n+1=>by
  rw[Nat.mul_succ,cy6,cy7 f M n]
  show _=J6 _ n+J6 (fun c=>f (c+M*n)) M
  congr 1
  exact b82 fun c _=>by rw[Nat.add_comm]
theorem ce8{f:Nat→Nat}{b:Nat}(h:∀k,f k≤b):∀n,J6 f n≤n*b
 | 0=>by simp[J6]
 | n+1=>by have:=ce8 h n;have:=h n;rw[Nat.succ_mul];show J6 f n+f n≤_;omega
theorem cj2(f:Nat→Nat)(a:Nat):∀d,J6 f a≤J6 f (a+d)
 | 0=>Nat.le_refl _
 | d+1=>Nat.le_trans (cj2 f a d) (Nat.le_add_right _ _)
def J2(l:List Int):Nat→List Nat→Nat
 | 0,X=>if S7 l (U7 l X) then 1 else 0
 | r+1,X=>J6 (fun x=>J2 l r (X++[x])) (ord l)
def ba4(n c:Nat):Nat→Nat
 | 0=>c
 | i+1=>ba4 n c i / n
def P1(n c:Nat):Nat→List Nat
 | 0=>[]
 | i+1=>(ba4 n c i % n) :: P1 n c i
theorem c25(n c:Nat):∀i,(P1 n c i).length=i
 | 0=>rfl
 | i+1=>by simp[P1,c25 n c i]
theorem cb3{n:Nat}(h:0<n)(c:Nat):∀i,∀x∈P1 n c i,x<n
 | 0=>by simp[P1]
 | i+1=>by
  intro x hx
  rw[P1,List.mem_cons] at hx
  rcases hx with rfl | hx
  · exact Nat.mod_lt _ h
  · exact cb3 h c i x hx
theorem bh8(n c:Nat):∀i,ba4 n c i=c / n ^ i
 | 0=>by simp[ba4]
 | i+1=>by rw[ba4,bh8 n c i,Nat.div_div_eq_div_mul,Nat.pow_succ]
theorem du0(n c i:Nat):ba4 n c i≤c:=by rw[bh8];exact Nat.div_le_self _ _
theorem d46{n:Nat}(h:0<n)(c x r:Nat):∀i,i≤r→P1 n (c+n ^ r*x) i=P1 n c i
 | 0,_=>rfl
 | i+1,hi=>by
  rw[P1,P1,d46 h c x r i (by omega),bh8,bh8]
  congr 1
  obtain⟨d,rfl⟩:∃d,r=i+1+d:=⟨r - (i+1),by omega⟩
  rw[show n ^ (i+1+d)*x=n ^ i*(n*(n ^ d*x)) by rw[Nat.pow_add,Nat.pow_succ];simp[Nat.mul_assoc],Nat.add_mul_div_left _ _ (Nat.pow_pos h),Nat.add_mul_mod_self_left]
theorem du1{n c x r:Nat}(hc:c<n ^ r)(hx:x<n):P1 n (c+n ^ r*x) (r+1)=x :: P1 n c r:=by
 have h:0<n:=by omega
 rw[P1,d46 h c x r r (Nat.le_refl _),bh8,Nat.add_mul_div_left _ _ (Nat.pow_pos h),Nat.div_eq_of_lt hc,Nat.zero_add,Nat.mod_eq_of_lt hx]
def W5(l:List Int)(I:List Nat):Nat:=if T6 l I l.length&&S7 l (U7 l I) then 1 else 0
def Z5(l:List Int)(K:Nat):Nat:=J6 (fun c=>W5 l (P1 (ord l) c l.length)) K
theorem co5(l:List Int):∀r X,J2 l r X=J6 (fun c=>if S7 l (U7 l (X++P1 (ord l) c r)) then 1 else 0) (ord l ^ r)
 | 0,X=>by simp[J2,J6,P1]
 | r+1,X=>by
  rw[Nat.pow_succ,cy7]
  show J6 (fun x=>J2 l r (X++[x])) (ord l)=_
  refine b82 fun x hx=>?_
  rw[co5 l r]
  refine b82 fun c hc=>?_
  rw[du1 hc hx,List.append_assoc];rfl
theorem dl1{l:List Int}(h:c9 l=true)(h9:ord l≤9):J2 l l.length []=Z5 l (ord l ^ l.length):=by
 rw[co5,Z5];have h1:=l8 h;refine b82 fun c _=>?_;rw[List.nil_append,W5];cases ha:S7 l (U7 l (P1 (ord l) c l.length))
 · simp
 · rw[dl0 h h9 (fun k hk=>cb3 (by omega) c _ _ (o6 (by rw[c25];exact hk))) ha];rfl
theorem cb1(l:List Int):∀r X,J2 l r X≤ord l ^ r
 | 0,X=>by unfold J2;split<;>simp
 | r+1,X=>by
  rw[Nat.pow_succ,Nat.mul_comm]
  exact ce8 (fun x=>cb1 l r (X++[x])) (ord l)
theorem cb0(l:List Int)(K:Nat):Z5 l K≤K:=by
 have:=ce8 (f:=fun c=>W5 l (P1 (ord l) c l.length)) (b:=1) (fun c=>by unfold W5;split<;>omega) K;rw[Nat.mul_one] at this;exact this
end Go.Zz
namespace Go.Zz
open Go.RowKit Go.Proofs
set_option maxHeartbeats 4000000
set_option maxRecDepth 8000
theorem bp2(v:Value)(l:List Int)(vF:Value)(F:List Nat)(w:World)(h:c8 w v l)(hF:c8 w vF (d6 F))(Hgr:Hid (c9 l=true))(hlen:F.length=ord l)(hlt:∀y∈F,y<ord l) :
 Calls Tryz.prog 301 #[.agg #[v],vF] w fun e w'=>e=.returned (.bool (S7 l F))∧Ext w w':=by
 obtain⟨wb,Hwb,hE0,hb,hg,hE,Hsz⟩:=j60 28 h;clear h;have HFx:=Lib.hid (fun W (hW:Ext wb W)=>hF.ext (hE0.trans hW));obtain⟨aoF,cF,adrF,rfl,hadrF,hcellF⟩:=hF.nats;have cSo:=fun W (hW:Ext wb W)=>dc1 v l _ (d6 F) W (hg W hW) (HFx.out W hW);have hixF:=j6 (c:=cF) elI szI hadrF;clear hadrF hF HFx;have ob:=l8 Hgr.out;have Hadd:Hid (∀x y,j9 l x y<F.length):=Lib.hid fun x y=>by rw[hlen];exact E9 l (m0 Hgr.out) x y
 have Hlt:Hid (∀i,i<F.length→d5 F i<24):=Lib.hid fun i hi=>by have:=hlt _ (o6 hi);omega
 have hl24:F.length≤24:=by omega
 have Ha0:Hid (S7 l F=(soB l (d6 F)&&(decide (soV l (d6 F)=(j4 l:Int))&&b47 l F))):=Lib.hid rfl;have Hlen:=Lib.hid hlen;obtain⟨S,hS⟩:∃S,S=soV l (d6 F):=⟨_,rfl⟩;obtain⟨o,ho⟩:∃o,o=soB l (d6 F):=⟨_,rfl⟩;simp only[←hS,←ho] at cSo Ha0;clear hS ho hlt;have cFu:=fun W (hW:Ext wb W)=>F2 v l W (hg W hW) Hgr;obtain⟨N,hN⟩:∃N,N=j4 l:=⟨_,rfl⟩;simp only[←hN] at cFu Ha0;clear hN hlen;cases o
 · have Ha:Hid (S7 l F=false):=Lib.hid (by rw[Ha0.out];rfl);clear Ha0;go_enter Tryz.func301,Tryz.ntmps301;go_wp2_with fail;rw[←Hwb.out];go_wp2_with (go_at_call 347;refine (cSo _ hE).mono ?_;rintro e w1 ⟨rfl,hE1⟩);go_ret;exact⟨l9 Ha.out.symm,hE0.trans hE1⟩
 · cases hq:decide (S=(N:Int))
   · have Ha:Hid (S7 l F=false):=Lib.hid (by rw[Ha0.out,hq];rfl);have hqn:(S != (N:Int))=true:=(by rw[bne_iff_ne];exact of_decide_eq_false hq);clear Ha0 hq;go_enter Tryz.func301,Tryz.ntmps301;go_wp2_with fail;rw[←Hwb.out];go_wp2_with (first | (go_at_call 347;refine (cSo _ hE).mono ?_;rintro e w1 ⟨rfl,hE1⟩;have hb1:=hb _ hE1) | (go_at_call 215;refine (cFu _ hE1).mono ?_;rintro e w2 ⟨rfl,hE2⟩));go_ret;exact⟨l9 Ha.out.symm,hE0.trans (hE1.trans hE2)⟩
   · have Ha:Hid (S7 l F=b47 l F):=Lib.hid (by rw[Ha0.out,hq];rfl);have hqn:(S != (N:Int))=false:=(by have:=of_decide_eq_true hq;rw[this];simp);clear Ha0 hq;go_enter Tryz.func301,Tryz.ntmps301;go_wp2_with fail;rw[←Hwb.out];go_wp2_with (first | (go_at_call 347;refine (cSo _ hE).mono ?_;rintro e w1 ⟨rfl,hE1⟩;have hb1:=hb _ hE1) | (go_at_call 215;refine (cFu _ hE1).mono ?_;rintro e w2 ⟨rfl,hE2⟩));replace hE:=hE1.trans hE2;clear hE1 hE2 hb1 cSo cFu hqn;go_loopw [25] (fun iv wr=>∃i:Nat,i≤F.length∧iv=.int .i64 i∧Ext wb wr∧Hid (∀i',i'<i→∀j,j<F.length→hmE l F i' j=true)) (fun iv _=>F.length - (intOf iv).toNat);(case atStart=>exact⟨0,by omega,rfl,hE,Lib.hid (by omega)⟩);case round =>
      clear hE;obtain⟨i,hi,rfl,hE,H1⟩:=hrel;by_cases hit:i<F.length
      · go_wp2_with fail;go_loopw [30] (fun jv wq=>∃j:Nat,j≤F.length∧jv=.int .i64 j∧Ext wb wq∧Hid (∀j',j'<j→hmE l F i j'=true)) (fun jv _=>F.length - (intOf jv).toNat);(case atStart=>exact⟨0,by omega,rfl,hE,Lib.hid (by omega)⟩);case round =>
         clear hE;obtain⟨j,hj,rfl,hE,H2⟩:=hrel;by_cases hjt:j<F.length
         · have hst:j9 l i j<F.length:=Hadd.out i j;have cS:=fun U=>hcellF (j9 l i j) _ hst (hE0.trans (hE.trans (b9 wr U)));have cI:=fun U=>hcellF i _ hit (hE0.trans (hE.trans (b9 wr U)));have cJ:=fun U=>hcellF j _ hjt (hE0.trans (hE.trans (b9 wr U)));have hbU:=fun U=>hb _ (hE.trans (b9 wr U));have tI:=Hlt.out i hit;have tJ:=Hlt.out j hjt;have a1:=fun U=>N2 v l i j _ (hg _ (hE.trans (b9 wr U))) Hgr (by omega) (by omega);have a2:=fun U=>N2 v l (d5 F i) (d5 F j) _ (hg _ (hE.trans (b9 wr U))) Hgr (by omega) (by omega);have he:(((d5 F (j9 l i j):Nat):Int) != ((j9 l (d5 F i) (d5 F j):Nat):Int)) = !hmE l F i j:=by
            unfold hmE;rw[Bool.eq_iff_iff,bne_iff_ne];simp;omega
           have hEb:=hE;clear hE;have hE:=Ext.refl wr;cases eh:hmE l F i j
           · have Hk:Hid (b47 l F=false):=Lib.hid (d57 (Hlen.out ▸ hit) (Hlen.out ▸ hjt) eh);rw[eh] at he;clear eh;go_wp2_with fail;(refine d0 (wr) (by kernel_rfl) (by kernel_rfl) hE ?_);(repeat (go_big_quiet_step (first | (go_at_call 224;first | with_reducible exact Calls.lat (a1 _) | with_reducible exact Calls.lat (a2 _)))));(refine wpQuiet_nil ?_);(intro W hE');(replace hE:=l7 hE');(clear hE');go_wp2_with fail;go_ret;exact⟨l9 (by rw[Ha.out,Hk.out]),hE0.trans (hEb.trans hE)⟩
           · have Hk:=Lib.hid eh;rw[eh] at he;clear eh;go_wp2_with fail;(refine d0 (wr) (by kernel_rfl) (by kernel_rfl) hE ?_);(repeat (go_big_quiet_step (first | (go_at_call 224;first | with_reducible exact Calls.lat (a1 _) | with_reducible exact Calls.lat (a2 _)))));(refine wpQuiet_nil ?_);(intro W hE');(replace hE:=l7 hE');(clear hE');go_wp2_with fail;go_roundw;(case rel=>exact⟨j+1,by omega,by go_num,hEb.trans hE,Lib.hid fun j' h1=>by by_cases e:j'=j;(subst e;exact Hk.out);exact H2.out j' (by omega)⟩);case measure=>(simp[intOf];omega)
         · have hjl:j=F.length:=(by omega);go_wp2_with fail;go_roundw;(case rel=>exact⟨i+1,by omega,by go_num,hE,Lib.hid fun i' h1 j' h2=>by by_cases e:i'=i;(subst e;exact H2.out j' (by omega));exact H1.out i' (by omega) j' h2⟩);case measure=>(simp[intOf];omega)
      · have hil:i=F.length:=(by omega);have Hk:Hid (b47 l F=true):=Lib.hid (bl9.2 fun x y hx hy=>H1.out x (by rw[hil,Hlen.out];exact hx) y (by rw[Hlen.out];exact hy));go_wp2_with fail;go_ret;exact⟨l9 (by rw[Ha.out,Hk.out]),hE0.trans hE⟩
theorem bn3(v:Value)(l:List Int)(vF:Value)(F:List Nat)(w:World)(h:c8 w v l)(hF:c8 w vF (d6 F))(Hgr:Hid (c9 l=true))(hlen:F.length=ord l)(hlt:∀y∈F,y<ord l) :
 Calls Tryz.prog 281 #[.agg #[v],vF] w fun e w'=>e=.returned (.bool (S7 l F))∧Ext w w':=by
 obtain⟨wb,Hwb,hE0,hb,hg,hE,Hsz⟩:=j60 28 h;clear h;have HFx:=Lib.hid (fun W (hW:Ext wb W)=>hF.ext (hE0.trans hW));obtain⟨aoF,cF,adrF,rfl,hadrF,hcellF⟩:=hF.nats;have cSo:=fun W (hW:Ext wb W)=>db1 v l _ (d6 F) W (hg W hW) (HFx.out W hW);have hixF:=j6 (c:=cF) elI szI hadrF;clear hadrF hF HFx;have ob:=l8 Hgr.out;have Hadd:Hid (∀x y,j9 l x y<F.length):=Lib.hid fun x y=>by rw[hlen];exact E9 l (m0 Hgr.out) x y
 have Hlt:Hid (∀i,i<F.length→d5 F i<24):=Lib.hid fun i hi=>by have:=hlt _ (o6 hi);omega
 have hl24:F.length≤24:=by omega
 have Ha0:Hid (S7 l F=(soB l (d6 F)&&(decide (soV l (d6 F)=(j4 l:Int))&&b47 l F))):=Lib.hid rfl;have Hlen:=Lib.hid hlen;obtain⟨S,hS⟩:∃S,S=soV l (d6 F):=⟨_,rfl⟩;obtain⟨o,ho⟩:∃o,o=soB l (d6 F):=⟨_,rfl⟩;simp only[←hS,←ho] at cSo Ha0;clear hS ho hlt;have cO:=fun W (hW:Ext wb W)=>m4 v l W (hg W hW) Hgr;have hne:(((F.length:Nat):Int) != ((ord l:Nat):Int))=false:=by rw[hlen];simp
 have hs1:=p0 (n:=ord l) (by omega);obtain⟨N,hN⟩:∃N,N=pw (ord l):=⟨_,rfl⟩;have hNb:1≤N∧N≤16777216:=by rw[hN];exact⟨R5 _,b04 (by omega)⟩
 have hNf:((j4 l:Nat):Int)=(N:Int) - 1:=by unfold j4;rw[←hN];omega
 rw[←hN] at hs1;rw[hNf] at Ha0;clear hN hNf hlen;cases o
 · have Ha:Hid (S7 l F=false):=Lib.hid (by rw[Ha0.out];rfl);clear Ha0;go_enter Tryz.func281,Tryz.ntmps281;go_wp2_with fail;rw[←Hwb.out];go_wp2_with (go_at_call 332;refine (cSo _ hE).mono ?_;rintro e w1 ⟨rfl,hE1⟩);go_ret;exact⟨l9 Ha.out.symm,hE0.trans hE1⟩
 · cases hq:decide (S=(N:Int) - 1)
   · have Ha:Hid (S7 l F=false):=Lib.hid (by rw[Ha0.out,hq];rfl);have hqn:(S != (N:Int) - 1)=true:=(by rw[bne_iff_ne];exact of_decide_eq_false hq);clear Ha0 hq;go_enter Tryz.func281,Tryz.ntmps281;go_wp2_with fail;rw[←Hwb.out];go_wp2_with (first | (go_at_call 332;refine (cSo _ hE).mono ?_;rintro e w1 ⟨rfl,hE1⟩;have hb1:=hb _ hE1;have hEx:=hE1) | (go_at_call 43;refine (cO _ hEx).mono ?_;rintro e w2 ⟨rfl,hE2⟩;replace hEx:=hEx.trans hE2;have hb2:=hb _ hEx));go_ret;exact⟨l9 Ha.out.symm,hE0.trans hEx⟩
   · have Ha:Hid (S7 l F=b47 l F):=Lib.hid (by rw[Ha0.out,hq];rfl);have hqn:(S != (N:Int) - 1)=false:=(by have:=of_decide_eq_true hq;rw[this];simp);clear Ha0 hq;go_enter Tryz.func281,Tryz.ntmps281;go_wp2_with fail;rw[←Hwb.out];go_wp2_with (first | (go_at_call 332;refine (cSo _ hE).mono ?_;rintro e w1 ⟨rfl,hE1⟩;have hb1:=hb _ hE1;have hEx:=hE1) | (go_at_call 43;refine (cO _ hEx).mono ?_;rintro e w2 ⟨rfl,hE2⟩;replace hEx:=hEx.trans hE2;have hb2:=hb _ hEx));clear hE;have hE:=hEx;clear hEx hb1 hb2 cSo cO hqn hne;go_loopw [7] (fun iv wr=>∃i:Nat,i≤F.length∧iv=.int .i64 i∧Ext wb wr∧Hid (∀i',i'<i→∀j,j<F.length→hmE l F i' j=true)) (fun iv _=>F.length - (intOf iv).toNat);(case atStart=>exact⟨0,by omega,rfl,hE,Lib.hid (by omega)⟩);case round =>
      clear hE;obtain⟨i,hi,rfl,hE,H1⟩:=hrel;by_cases hit:i<F.length
      · go_wp2_with fail;go_loopw [8] (fun jv wq=>∃j:Nat,j≤F.length∧jv=.int .i64 j∧Ext wb wq∧Hid (∀j',j'<j→hmE l F i j'=true)) (fun jv _=>F.length - (intOf jv).toNat);(case atStart=>exact⟨0,by omega,rfl,hE,Lib.hid (by omega)⟩);case round =>
         clear hE;obtain⟨j,hj,rfl,hE,H2⟩:=hrel;by_cases hjt:j<F.length
         · have hst:j9 l i j<F.length:=Hadd.out i j;have cS:=fun U=>hcellF (j9 l i j) _ hst (hE0.trans (hE.trans (b9 wr U)));have cI:=fun U=>hcellF i _ hit (hE0.trans (hE.trans (b9 wr U)));have cJ:=fun U=>hcellF j _ hjt (hE0.trans (hE.trans (b9 wr U)));have hbU:=fun U=>hb _ (hE.trans (b9 wr U));have tI:=Hlt.out i hit;have tJ:=Hlt.out j hjt;have a1:=fun U=>G5 v l i j _ (hg _ (hE.trans (b9 wr U))) Hgr (by omega) (by omega);have a2:=fun U=>G5 v l (d5 F i) (d5 F j) _ (hg _ (hE.trans (b9 wr U))) Hgr (by omega) (by omega);have he:(((d5 F (j9 l i j):Nat):Int) != ((j9 l (d5 F i) (d5 F j):Nat):Int)) = !hmE l F i j:=by
            unfold hmE;rw[Bool.eq_iff_iff,bne_iff_ne];simp;omega
           have hEb:=hE;clear hE;have hE:=Ext.refl wr;cases eh:hmE l F i j
           · have Hk:Hid (b47 l F=false):=Lib.hid (d57 (Hlen.out ▸ hit) (Hlen.out ▸ hjt) eh);rw[eh] at he;clear eh;go_wp2_with fail;(refine d0 (wr) (by kernel_rfl) (by kernel_rfl) hE ?_);(repeat (go_big_quiet_step (first | (go_at_call 190;first | with_reducible exact Calls.lat (a1 _) | with_reducible exact Calls.lat (a2 _)))));(refine wpQuiet_nil ?_);(intro W hE');(replace hE:=l7 hE');(clear hE');go_wp2_with fail;go_ret;exact⟨l9 (by rw[Ha.out,Hk.out]),hE0.trans (hEb.trans hE)⟩
           · have Hk:=Lib.hid eh;rw[eh] at he;clear eh;go_wp2_with fail;(refine d0 (wr) (by kernel_rfl) (by kernel_rfl) hE ?_);(repeat (go_big_quiet_step (first | (go_at_call 190;first | with_reducible exact Calls.lat (a1 _) | with_reducible exact Calls.lat (a2 _)))));(refine wpQuiet_nil ?_);(intro W hE');(replace hE:=l7 hE');(clear hE');go_wp2_with fail;go_roundw;(case rel=>exact⟨j+1,by omega,by go_num,hEb.trans hE,Lib.hid fun j' h1=>by by_cases e:j'=j;(subst e;exact Hk.out);exact H2.out j' (by omega)⟩);case measure=>(simp[intOf];omega)
         · have hjl:j=F.length:=(by omega);go_wp2_with fail;go_roundw;(case rel=>exact⟨i+1,by omega,by go_num,hE,Lib.hid fun i' h1 j' h2=>by by_cases e:i'=i;(subst e;exact H2.out j' (by omega));exact H1.out i' (by omega) j' h2⟩);case measure=>(simp[intOf];omega)
      · have hil:i=F.length:=(by omega);have Hk:Hid (b47 l F=true):=Lib.hid (bl9.2 fun x y hx hy=>H1.out x (by rw[hil,Hlen.out];exact hx) y (by rw[Hlen.out];exact hy));go_wp2_with fail;go_ret;exact⟨l9 (by rw[Ha.out,Hk.out]),hE0.trans hE⟩
end Go.Zz
namespace Go.Zz
open Go.RowKit Go.Proofs
set_option maxHeartbeats 400000
set_option maxRecDepth 4000
theorem dj4(v:Value)(l:List Int)(x n:Nat)(w:World)(h:c8 w v l)(Hgr:Hid (c9 l=true))(hx:x<16777216)(hn:n≤1000000) :
 Calls Tryz.prog 300 #[.agg #[v],.int .i64 x,.int .i64 n] w fun e w'=>e=.returned (.int .i64 (L9 l x n:Nat))∧Ext w w':=by
 obtain⟨wb,Hwb,hE0,hb,hg,hE,Hsz⟩:=j60 28 h;clear h;have hn0:¬((n:Int)<0):=by omega
 go_enter Tryz.func300,Tryz.ntmps300;go_wp2_with fail;rw[←Hwb.out];go_loopw [7,16] (fun sv iv wr=>∃i:Nat,i≤n∧iv=.int .i64 i∧sv=.int .i64 (L9 l x i:Nat)∧Ext wb wr) (fun _ iv _=>n - (intOf iv).toNat);case atStart=>exact⟨0,by omega,rfl,rfl,hE⟩
 case round =>
  clear hE;obtain⟨i,hi,rfl,rfl,hE⟩:=hrel;by_cases hlt:i<n
  · have hltI:(i:Int)<(n:Int):=(by omega);have hbx:=hb _ hE;have hm:=bj0 Hgr.out x i;have hs:Hid (L9 l x (i+1)=j9 l (L9 l x i) x):=Lib.hid rfl;go_wp2_with (first | (go_at_call 224;refine cx (N2 _ _ _ _ _ (hg _ hE) (Hgr) ((by omega)) (hx)) hE ?_;clear hE;intro w' hE));go_roundw;(case rel=>exact⟨i+1,by omega,by go_num,by rw[hs.out],hE⟩);case measure=>(simp[intOf];omega)
  · have hin:i=n:=(by omega);have hltI:¬(i:Int)<(n:Int):=(by omega);rw[hin] at hltI ⊢;clear hin hi hlt;go_wp2_with fail;go_ret;exact⟨rfl,hE0.trans hE⟩
theorem da5(v:Value)(l:List Int)(x:Nat)(w:World)(h:c8 w v l)(Hgr:Hid (c9 l=true))(hx:x<16777216) :
 Calls Tryz.prog 299 #[.agg #[v],.int .i64 x] w fun e w'=>∃v',e=.returned v'∧Own 3 w w' v' (d6 (plP l x l.length))∧Ext w w':=by
 have hop:=h.op;have hE0:=(Ext.refl w).alloc (.cells #[v] 28);have hE:=Ext.refl (w.alloc (.cells #[v] 28));have hb:=d7 w v 28;have hg:∀W,Ext (w.alloc (.cells #[v] 28)) W→c8 W v l:=fun W hW=>h.ext (hE0.trans hW);clear h;obtain⟨ao,c,adr,rfl,hlen,hadr,hcell⟩:=hop;have hix:=j6 (c:=c) elI szI hadr;clear hadr;have hl3:=C0 Hgr.out;have Hc:=Lib.hid hcell;clear hcell;have hO:=q5 (TI:=3) (n:=0) (by omega) hE0 [] rfl;have hE1:=hE.alloc (.cells #[] 3);have hE2:=hE0.alloc (.cells #[] 3);have hb1:=hb _ hE1;go_enter Tryz.func299,Tryz.ntmps299;go_wp2_with fail;go_loopw [5,1,12] (fun s5 s1 iv wr=>∃k:Nat,k≤l.length∧iv=.int .i64 k∧s1=.int .i64 (plR l x k:Nat)∧Own 3 w wr s5 (d6 (plP l x k))∧Ext w wr) (fun _ _ iv _=>l.length - (intOf iv).toNat);case atStart=>exact⟨0,by omega,rfl,rfl,by simpa[plP,d6] using hO,hE2⟩
 case round =>
  clear hO hE hE1 hE2 hb1;obtain⟨k,hk,rfl,rfl,hO,hE⟩:=hrel;by_cases hlt:k<l.length
  · have hltI:(k:Int)<(l.length:Int):=(by omega);have hck:=Hc.out k _ hlt hE;have hn:=E2 Hgr.out hlt;have hr:=c82 l x k;have HR:Hid (plR l x (k+1)=plR l x k / (nth l k).toNat):=Lib.hid rfl;have HP:Hid (plP l x (k+1)=plP l x k++[plR l x k % (nth l k).toNat]):=Lib.hid rfl;have hpl:=b93 l x k;obtain⟨o,ho⟩:∃o:Nat,nth l k=(o:Int):=⟨(nth l k).toNat,by omega⟩;rw[ho] at hck hn;rw[ho,Int.toNat_natCast] at HR HP;clear ho;obtain⟨r,hrr⟩:∃r,r=plR l x k:=⟨_,rfl⟩;rw[←hrr] at hr HR HP ⊢;clear hrr;have hne2:((o:Int) == 0)=false:=(by simp;omega);have hpos:0<(o:Int):=(by omega);have D:=Lib.hid (Int.natCast_ediv r o);have Mo:=Lib.hid (Int.natCast_emod r o);have m1:r % o<16777216:=(by have:=Nat.mod_le r o;omega);have m2:r / o<16777216:=(by have:=Nat.div_le_self r o;omega);have hmb:(0:Int)≤(r:Int) % (o:Int)∧(r:Int) % (o:Int)<16777216:=(by rw[←Mo.out];exact⟨Int.natCast_nonneg _,Int.ofNat_lt.2 m1⟩);have hdb:(0:Int)≤(r:Int) / (o:Int)∧(r:Int) / (o:Int)<16777216:=(by rw[←D.out];exact⟨Int.natCast_nonneg _,Int.ofNat_lt.2 m2⟩);clear m1 m2;go_wp2_with (at_builtin;refine K4 slI rfl _ _ rfl w _ _ _ _ hO hE (by rw[j8];omega) rfl rfl ?_;intro v1 w1 hO1 hE1);go_roundw;(case rel=>exact⟨k+1,by omega,by go_num,by rw[HR.out,D.out],by rw[HP.out,J3,Mo.out];exact hO1,hE1⟩);case measure=>(simp[intOf];omega)
  · have hkl:k=l.length:=(by omega);subst hkl;go_wp2_with fail;go_ret;exact⟨_,rfl,hO,hE⟩
end Go.Zz
namespace Go.Zz
open Go.RowKit Go.Proofs
set_option maxHeartbeats 400000
set_option maxRecDepth 4000
theorem bk2(v:Value)(l:List Int)(x n:Nat)(w:World)(h:c8 w v l)(Hgr:Hid (c9 l=true))(hx:K2 l (x:Int)=true)(hx2:x<16777216)(hn:n≤100) :
 Calls Tryz.prog 279 #[.agg #[v],.int .i64 x,.int .i64 n] w fun e w'=>e=.returned (.int .i64 (L9 l x n:Nat))∧Ext w w':=by
 obtain⟨wb,Hwb,hE0,hb,hg,hE,Hsz⟩:=j60 28 h;clear h;have hn0:¬((n:Int)<0):=by omega
 have hin:inB (n:Int) (-100) 100=true:=by unfold inB;simp;omega
 have hbx:=hb _ hE;go_enter Tryz.func279,Tryz.ntmps279;go_wp2_with fail;rw[←Hwb.out];go_wp2_with (first | (go_at_call 243;refine cx (b11 _ _ _ _ (hg _ hE) (hx)) hE ?_;clear hE;intro w' hE) | (go_at_call 164;refine (U8 _ _ _ _).mono ?_;rintro e w' ⟨rfl,rfl⟩));go_loopw [7,8] (fun sv iv wr=>∃i:Nat,i≤n∧iv=.int .i64 i∧sv=.int .i64 (L9 l x i:Nat)∧Ext wb wr) (fun _ iv _=>n - (intOf iv).toNat);case atStart=>exact⟨0,by omega,rfl,rfl,hE⟩
 case round =>
  clear hE hbx;obtain⟨i,hi,rfl,rfl,hE⟩:=hrel;by_cases hlt:i<n
  · have hltI:(i:Int)<(n:Int):=(by omega);have hbx:=hb _ hE;have hm:=bj0 Hgr.out x i;have hs:Hid (L9 l x (i+1)=j9 l (L9 l x i) x):=Lib.hid rfl;go_wp2_with (first | (go_at_call 190;refine cx (G5 _ _ _ _ _ (hg _ hE) (Hgr) ((by omega)) (hx2)) hE ?_;clear hE;intro w' hE));go_roundw;(case rel=>exact⟨i+1,by omega,by go_num,by rw[hs.out],hE⟩);case measure=>(simp[intOf];omega)
  · have hinn:i=n:=(by omega);have hltI:¬(i:Int)<(n:Int):=(by omega);rw[hinn] at hltI ⊢;clear hinn hi hlt;go_wp2_with fail;go_ret;exact⟨rfl,hE0.trans hE⟩
end Go.Zz
namespace Go.Zz
open Go.RowKit Go.Proofs
set_option maxHeartbeats 400000
set_option maxRecDepth 4000
theorem cl8(v:Value)(l:List Int)(x:Nat)(w:World)(h:c8 w v l)(Hgr:Hid (c9 l=true))(hx:x<ord l) :
 Calls Tryz.prog 331 #[.agg #[v],.int .i64 x] w fun e w'=>∃v',e=.returned v'∧Own 3 w w' v' (d6 (plP l x l.length))∧Ext w w':=by
 have hop:=h.op;have hE0:=(Ext.refl w).alloc (.cells #[v] 28);have hE:=Ext.refl (w.alloc (.cells #[v] 28));have hb:=d7 w v 28;have hg:∀W,Ext (w.alloc (.cells #[v] 28)) W→c8 W v l:=fun W hW=>h.ext (hE0.trans hW);clear h;obtain⟨ao,c,adr,rfl,hlen,hadr,hcell⟩:=hop;have hix:=j6 (c:=c) elI szI hadr;clear hadr;have hl3:=C0 Hgr.out;have hob:=l8 Hgr.out;have Hhas:=Lib.hid (fun y (hy:y≤x)=>cc1 Hgr.out (show y<ord l by omega));have Hc:=Lib.hid hcell;clear hcell;have hO:=q5 (TI:=3) (n:=0) (by omega) hE [] rfl;have hE1:=hE.alloc (.cells #[] 3);have hE2:=hE0.alloc (.cells #[] 3);have hb1:=hb _ hE1;go_enter Tryz.func331,Tryz.ntmps331;go_wp2_with fail;go_loopw [5,1,6] (fun s5 s1 iv wr=>∃k:Nat,k≤l.length∧iv=.int .i64 k∧s1=.int .i64 (plR l x k:Nat)∧Own 3 (w.alloc (.cells #[.slice ao l.length c] 28)) wr s5 (d6 (plP l x k))∧Ext (w.alloc (.cells #[.slice ao l.length c] 28)) wr) (fun _ _ iv _=>l.length - (intOf iv).toNat);case atStart=>exact⟨0,by omega,rfl,rfl,by simpa[plP,d6] using hO,hE1⟩
 case round =>
  clear hO hE hE1 hE2 hb1;obtain⟨k,hk,rfl,rfl,hO,hE⟩:=hrel;have hbr:=hb _ hE;by_cases hlt:k<l.length
  · have hltI:(k:Int)<(l.length:Int):=(by omega);have hck:=Hc.out k _ hlt (hE0.trans hE);have hn:=E2 Hgr.out hlt;have hr:=c82 l x k;have cI:=b11 _ l (plR l x k) _ (hg _ hE) (Hhas.out _ hr);have HR:Hid (plR l x (k+1)=plR l x k / (nth l k).toNat):=Lib.hid rfl;have HP:Hid (plP l x (k+1)=plP l x k++[plR l x k % (nth l k).toNat]):=Lib.hid rfl;have hpl:=b93 l x k;obtain⟨o,ho⟩:∃o:Nat,nth l k=(o:Int):=⟨(nth l k).toNat,by omega⟩;rw[ho] at hck hn;have HcK:=Lib.hid (fun W (hW:Ext w W)=>(Hc.out k W hlt hW).trans (congrArg (fun z=>some (Value.int .i64 z)) ho));rw[ho,Int.toNat_natCast] at HR HP;clear ho;obtain⟨r,hrr⟩:∃r,r=plR l x k:=⟨_,rfl⟩;rw[←hrr] at hr HR HP cI ⊢;clear hrr;have hne2:((o:Int) == 0)=false:=(by simp;omega);have hpos:0<(o:Int):=(by omega);have D:=Lib.hid (Int.natCast_ediv r o);have Mo:=Lib.hid (Int.natCast_emod r o);have m1:r % o<16777216:=(by have:=Nat.mod_le r o;omega);have m2:r / o<16777216:=(by have:=Nat.div_le_self r o;omega);have hmb:(0:Int)≤(r:Int) % (o:Int)∧(r:Int) % (o:Int)<16777216:=(by rw[←Mo.out];exact⟨Int.natCast_nonneg _,Int.ofNat_lt.2 m1⟩);have hdb:(0:Int)≤(r:Int) / (o:Int)∧(r:Int) / (o:Int)<16777216:=(by rw[←D.out];exact⟨Int.natCast_nonneg _,Int.ofNat_lt.2 m2⟩);clear m1 m2;go_wp2_with (first | (go_at_call 243;refine cI.mono ?_;rintro e w2 ⟨rfl,hE2⟩;have hO2:=hO.ext hE2;have hEw:=hE.trans hE2;have hb2:=hb _ hEw;have hb3:=hb _ (hEw.alloc (.cells #[.int .i64 ((r:Int) % (o:Int))] 3));have hck2:=HcK.out _ (hE0.trans hEw)) | (at_builtin;refine K4 slI rfl _ _ rfl (w.alloc (.cells #[.slice ao l.length c] 28)) _ _ _ _ hO2 hEw (by rw[j8];omega) rfl rfl ?_;intro v1 w1 hO1 hE1;have hb4:=hb _ hE1;have hck4:=HcK.out _ (hE0.trans hE1)));go_roundw;(case rel=>exact⟨k+1,by omega,by go_num,by rw[HR.out,D.out],by rw[HP.out,J3,Mo.out];exact hO1,hE1⟩);case measure=>(simp[intOf];omega)
  · have hkl:k=l.length:=(by omega);subst hkl;go_wp2_with fail;go_ret;exact⟨_,rfl,hO.mono hE0,hE0.trans hE⟩
end Go.Zz
namespace Go.Zz
open Go.RowKit Go.Proofs
set_option maxHeartbeats 2000000
set_option maxRecDepth 8000
theorem d25(v:Value)(l:List Int)(vI:Value)(I:List Nat)(w:World)(h:c8 w v l)(hI:c8 w vI (d6 I))(Hgr:Hid (c9 l=true))(hIl:I.length=l.length)(hIo:∀y∈I,y<ord l) :
 Calls Tryz.prog 280 #[.agg #[v],vI] w fun e w'=>∃v',e=.returned v'∧Own 3 w w' v' (d6 (U7 l I))∧Ext w w':=by
 obtain⟨aoI,cI,adrI,rfl,hadrI,hcellI⟩:=hI.nats;have hixI:=j6 (c:=cI) elI szI hadrI;clear hadrI hI;obtain⟨wb,Hwb,hE0,hb,hg,hE,Hsz⟩:=j60 28 h;clear h;obtain⟨wc,hwc⟩:∃wc,wc=wb.alloc (.cells #[] 3):=⟨_,rfl⟩;have hO:Own 3 wb wc (.slice (some ⟨wb.heap.size,0,none⟩) 0 0) []:=by rw[hwc];exact q5 (by omega) hE [] rfl
 replace hE:Ext wb wc:=by rw[hwc];exact hE.alloc _
 have Hsz2:Hid (wb.heap.size+1=wc.heap.size):=Lib.hid (by rw[hwc];simp[go_sem]);have Hwc:=Lib.hid hwc;clear hwc;have hob:=l8 Hgr.out;have hl3:=C0 Hgr.out;have HI:=Lib.hid (fun i (hi:i<I.length)=>hIo _ (o6 hi));have HL:=Lib.hid hIl;have Hhas:=Lib.hid (fun y (hy:y<ord l)=>cc1 Hgr.out hy);have Hx:Hid (U7 l I=(List.range (ord l)).map (exV l I)):=Lib.hid rfl;clear hIo hIl;go_enter Tryz.func280,Tryz.ntmps280;go_wp2_with fail;rw[←Hwb.out,←Hwc.out];rw[Hsz.out];try rw[Hsz2.out]
 go_loopw [5,6] (fun sv sx wr=>∃x:Nat,x≤ord l∧sx=.int .i64 x∧Own 3 wb wr sv (d6 ((List.range x).map (exV l I)))∧Ext wb wr) (fun _ sx _=>ord l - (intOf sx).toNat);case atStart=>exact⟨0,by omega,rfl,hO,hE⟩
 case round =>
  clear hE hO;obtain⟨x,hx,rfl,hO,hE⟩:=hrel;have hbx:=hb _ hE;have hAl:(d6 ((List.range x).map (exV l I))).length<17592186044416:=by rw[j8,List.length_map,List.length_range];omega
  have cO:=fun W (hW:Ext wb W)=>m4 v l W (hg W hW) Hgr;by_cases hlt:x<ord l
  · have hltI:(x:Int)<(ord l:Int):=(by omega);have hPl:=b93 l x l.length;have HPx:=Lib.hid (fun i (hi:i<l.length)=>c81 l x hi);have Hv:Hid (exV l I x=lcT l I (plP l x l.length) l.length):=Lib.hid rfl;have cP:=fun W (hW:Ext wb W)=>cl8 v l x W (hg W hW) Hgr hlt;obtain⟨P,hP⟩:∃P,P=plP l x l.length:=⟨_,rfl⟩;rw[←hP] at hPl Hv;simp only[←hP] at cP HPx;have HPl:=Lib.hid hPl;clear hP hPl;have Hs:Hid ((List.range (x+1)).map (exV l I)=(List.range x).map (exV l I)++[exV l I x]):=Lib.hid (cg7 l I);obtain⟨A,hA⟩:∃A,A=(List.range x).map (exV l I):=⟨_,rfl⟩;rw[←hA] at hO hAl Hs;clear hA;go_wp2_with (first | (go_at_call 43;refine (cO _ hE).mono ?_;rintro e w1 ⟨rfl,hE1⟩;have hE01:=hE.trans hE1;have hb1:=hb _ hE01) | (go_at_call 331;refine (cP _ hE01).mono ?_;rintro e w2 ⟨vp,rfl,hOp,hE2⟩;obtain⟨aoP,cP2,adrP,rfl,hadrP,hcellP⟩:=hOp.ints.nats;have hixP:=j6 (c:=cP2) elI szI hadrP;clear hadrP));have hE02:=hE01.trans hE2;have hO2:=hO.ext (hE1.trans hE2);clear hE hE01 hO hbx hb1 hOp hE1 hE2;have hEs:=Ext.refl w2;go_loopw [8,9] (fun sz si wq=>∃i:Nat,i≤l.length∧si=.int .i64 i∧sz=.int .i64 (lcT l I P i:Nat)∧Ext w2 wq) (fun _ si _=>P.length - (intOf si).toNat);(case atStart=>exact⟨0,by omega,rfl,rfl,hEs⟩);case round =>
     clear hEs;obtain⟨i,hi,rfl,rfl,hEs⟩:=hrel;by_cases hiP:i<P.length
     · have hitI:(i:Int)<(P.length:Int):=(by omega);have hit:i<l.length:=(by have:=HPl.out;omega);have hiI:i<I.length:=(by have:=HL.out;omega);have kI:=fun U=>hcellI i _ hiI (hE0.trans (hE02.trans (hEs.trans (b9 wr U))));have kP:=fun U=>hcellP i _ hiP (hEs.trans (b9 wr U));have kb:=fun U=>hb _ (hE02.trans (hEs.trans (b9 wr U)));have hIi:=HI.out i hiI;have hPi:=HPx.out i hit;have hT:=c73 Hgr.out I P i;have hM:=bj0 Hgr.out (d5 I i) (d5 P i);have m1:=fun U=>bk2 v l (d5 I i) (d5 P i) _ (hg _ (hE02.trans (hEs.trans (b9 wr U)))) Hgr (Hhas.out _ hIi) (by omega) (by omega);have a1:=fun U=>G5 v l (lcT l I P i) (L9 l (d5 I i) (d5 P i)) _ (hg _ (hE02.trans (hEs.trans (b9 wr U)))) Hgr (by omega) (by omega);have Hn:Hid (lcT l I P (i+1)=j9 l (lcT l I P i) (L9 l (d5 I i) (d5 P i))):=Lib.hid rfl;have hEb:=hEs;clear hEs;have hE:=Ext.refl wr;go_wp2_with fail;(refine d0 (wr) (by kernel_rfl) (by kernel_rfl) hE ?_);(repeat (go_big_quiet_step (first | (go_at_call 279;with_reducible exact Calls.lat (m1 _)) | (go_at_call 190;with_reducible exact Calls.lat (a1 _)))));(refine wpQuiet_nil ?_);(intro W hE');(replace hE:=l7 hE');(clear hE');go_wp2_with fail;go_roundw;(case rel=>exact⟨i+1,by omega,by go_num,by rw[Hn.out],hEb.trans hE⟩);case measure=>(simp[intOf];omega)
     · have hil:i=l.length:=(by have:=HPl.out;omega);have hitI:¬(i:Int)<(P.length:Int):=(by omega);have hO3:=hO2.ext hEs;have hE3:=hE02.trans hEs;have HitI:=Lib.hid hitI;clear hitI hiP;rw[hil,←Hv.out];rw[hil] at HitI;have hitI:=HitI.out;clear hil hi;obtain⟨z,hz⟩:∃z,z=exV l I x:=⟨_,rfl⟩;rw[←hz] at Hs ⊢;clear hz;go_wp2_with (at_builtin;refine K4 slI rfl _ _ rfl wb _ _ _ _ hO3 hE3 hAl rfl rfl ?_;intro v1 w1 hO1 hE1);go_roundw;(case rel=>exact⟨x+1,by omega,by go_num,by rw[Hs.out,J3];exact hO1,hE1⟩);case measure=>(simp[intOf];omega)
  · have hltI:¬(x:Int)<(ord l:Int):=(by omega);have hxl:x=ord l:=(by omega);rw[hxl,←Hx.out] at hO;go_wp2_with (go_at_call 43;refine (cO _ hE).mono ?_;rintro e w1 ⟨rfl,hE1⟩);go_ret;exact⟨_,rfl,(hO.ext hE1).mono hE0,hE0.trans (hE.trans hE1)⟩
end Go.Zz
