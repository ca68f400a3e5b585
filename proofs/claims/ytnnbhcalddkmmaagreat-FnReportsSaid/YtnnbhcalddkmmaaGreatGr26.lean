/- The number of automorphisms: the reference. -/
import Derived.Test.YtnnbhcalddkmmaaGreatGr25
set_option linter.unusedSimpArgs false
set_option linter.unusedVariables false
set_option linter.unnecessarySimpa false
set_option maxHeartbeats 4000000
set_option maxRecDepth 8000
namespace Go.Zz
open Go.RowKit Go.Proofs
def auB(l:List Int):Bool:=j1 l&&decide (ord l<=9)
theorem ch4{n k:Nat}(hn:n<=9)(hk:k<=3):n ^ k<=729 :=
 nle (Nat.pow_le_pow_left hn k) (Nat.pow_le_pow_right (n:=9) om hk)
theorem dy6(l:List Int)(K:Nat):b54 l (K+1)=b54 l K+b29 l (V7 (ord l) K l.length):=rfl
theorem dy5{l:List Int}{I:List Nat}(h:Z7 l I l.length=false):b29 l I=0:=by unfold b29;rw[h];rfl
theorem dt6{l:List Int}{I:List Nat}(h:Z0 l (b11 l I)=false):b29 l I=0:=by unfold b29;rw[h];simp
theorem dt7{l:List Int}{I:List Nat}(h:Z7 l I l.length=true)(h2:Z0 l (b11 l I)=true):b29 l I=1:=by unfold b29;rw[h,h2];rfl
theorem bz2(v:Value)(l:List Int)(w:World)(h:c9 w v l)(hn:auB l=false) :
 Calls Tryz.prog 178 #[.agg #[v]] w fun e w'=>∃v',e=.returned (.tuple #[v',.bool false])∧Ext w w':=by
 obtain⟨wb,Hwb,hE0,hb,hg,hE,Hsz⟩:=ju3 28 h;clear h;have cG:=fun W (hW:Ext wb W)=>A3 v l W (hg W hW);have hE1:=hE.alloc (.cells #[] 26);have hb1:=hb _ hE1;cases hgr:j1 l
 . rw[hgr] at cG;go_in;go_wp2_with fail;rw[<-Hwb.out];rw[Hsz.out];go_wp2_with (go_at_call 42;refine (cG _ hE1).mono ?_;rintro e w1 ⟨rfl,hE2⟩;have hb2:=hb _ (hE1.trans hE2));exact bodyPost_ret (v:=.tuple #[.slice (some ⟨wb.heap.size,0,none⟩) 0 0,.bool false]) (by simp[results,Tryz.results178,go_sem]) rfl ⟨_,rfl,hE0.trans (hE1.trans hE2)⟩
 . rw[hgr] at cG;have Hgr:=zh hgr;have h9:¬(ord l<=9):=by
    intro h9;unfold auB at hn;rw[hgr,decide_eq_true h9] at hn;cases hn
   have h9I:(9:Int)<(ord l:Int):=om;have cO:=fun W (hW:Ext wb W)=>o5 v l W (hg W hW) Hgr;clear hgr hn;go_in;go_wp2_with fail;rw[<-Hwb.out];rw[Hsz.out];go_wp2_with (first | (go_at_call 42;refine (cG _ hE1).mono ?_;rintro e w1 ⟨rfl,hE2⟩;have hE12:=hE1.trans hE2;have hb2:=hb _ hE12) | (go_at_call 43;refine (cO _ hE12).mono ?_;rintro e w3 ⟨rfl,hE3⟩));exact bodyPost_ret (v:=.tuple #[.slice (some ⟨wb.heap.size,0,none⟩) 0 0,.bool false]) (by simp[results,Tryz.results178,go_sem]) rfl ⟨_,rfl,hE0.trans (hE12.trans hE3)⟩
theorem zz74{P:Prop}(h:P:=by clear hf Hn;go_wp2_with fail;(refine wl hE ?_);(repeat (go_big_quiet_step (first | (go_at_call 279;with_reducible exact Calls.lat (m1 _)))));(refine zd ?_);(clear hE);(intro W hE);go_wp2_with fail;go_roundw;(case rel=>exact⟨i+1,om,zg,by rw[Hn2.out],hEb.trans hE⟩);case measure=>exact zm1):P:=h
theorem bx5(v:Value)(l:List Int)(w:World)(h:c9 w v l)(hn:auB l=true) :
 Calls Tryz.prog 178 #[.agg #[v]] w fun e w'=>∃v',e=.returned (.tuple #[v',.bool true])∧E7 w w' v' (b54 l (ord l ^ l.length))∧Ext w w':=by
 have hop:=h.op;obtain⟨wb,Hwb,hE0,hb,hg,hE,Hsz⟩:=ju3 28 h;clear h;obtain⟨ao,c,adr,rfl,hlen,hadr,hcell⟩:=hop;have hix:=j3 (c:=c) elI szI hadr;clear hadr;obtain⟨hgr,h9⟩:j1 l=true∧ord l<=9:=by unfold auB at hn;simpa using hn
 have Hgr:=zh hgr;have cG:=fun W (hW:Ext wb W)=>A3 _ l W (hg W hW);rw[hgr] at cG;clear hgr hn;have cO:=fun W (hW:Ext wb W)=>o5 _ l W (hg W hW) Hgr;have hl3:=C6 Hgr.out;have hob:=m8 Hgr.out;have h9I:¬(9:Int)<(ord l:Int):=om;have hE1:=hE.alloc (.cells #[] 26);have hO0:E7 wb (wb.alloc (.cells #[] 26)) (.slice (some ⟨wb.heap.size,0,none⟩) 0 0) 0:=be1 hE;obtain⟨wc,hwc⟩:=nq (wb.alloc (.cells #[] 26));rw[<-hwc] at hE1 hO0;have hb1:=hb _ hE1;have Hwc:=zh hwc;clear hwc;go_in;go_wp2_with fail;rw[<-Hwb.out];rw[Hsz.out];rw[<-Hwc.out];go_wp2_with (first | (go_at_call 42;refine (cG _ hE1).mono ?_;rintro e w1 ⟨rfl,hE2⟩;have hE12:=hE1.trans hE2;have hb2:=hb _ hE12) | (go_at_call 43;refine (cO _ hE12).mono ?_;rintro e w3 ⟨rfl,hE3⟩;replace hE12:=hE12.trans hE3;replace hE2:=hE2.trans hE3;have hb3:=hb _ hE12));have hOv:=hO0.ext hE2;clear hO0 hE2 hE1 hb1 hb2 hE hE3;have hE:=hE12;clear hE12;try clear hb3
 go_loopw [6,7] (fun sc si wr=>∃k:Nat,k<=l.length∧si=.int .i64 k∧sc=.int .i64 (ord l ^ k:Nat)∧E7 wb wr (.slice (some ⟨wb.heap.size,0,none⟩) 0 0) 0∧Ext wb wr) (fun _ si _=>l.length - (intOf si).toNat);case atStart=>exact⟨0,om,rfl,rfl,hOv,hE⟩
 case round =>
  clear hE hOv;obtain⟨k,hk,rfl,rfl,hOv,hE⟩:=hrel;have hbx:=hb _ hE;by_cases hlt:k<l.length
  . have hltI:(k:Int)<(l.length:Int):=(by omega);have hp:=ch4 h9 (show k<=3 by omega);have hp2:=ch4 h9 (show k+1<=3 by omega);have Hs:Hid (((ord l ^ (k+1):Nat):Int)=((ord l ^ k:Nat):Int)*(ord l:Int)):=zh (by rw[Nat.pow_succ,Int.natCast_mul]);have hm:0<=((ord l ^ k:Nat):Int)*(ord l:Int)∧((ord l ^ k:Nat):Int)*(ord l:Int)<=729:=by
     rw[<-Hs.out];omega
    clear hp2;obtain⟨M,hM⟩:∃M:Nat,M=ord l ^ k:=⟨_,rfl⟩;rw[<-hM] at hp Hs hm ⊢;clear hM;go_wp2_with fail;go_roundw;(case rel=>exact⟨k+1,om,zg,by rw[Hs.out],hOv,hE⟩);case measure=>exact zm1
  . have hltI:¬(k:Int)<(l.length:Int):=(by omega);have hkl:k=l.length:=om;have hC:=ch4 h9 (show k<=3 by omega);have HC:Hid (ord l ^ l.length=ord l ^ k):=zh (by rw[hkl]);obtain⟨C,hCd⟩:=nq (ord l ^ k);rw[<-hCd] at HC hC ⊢;have HKL:=zh hkl;clear hCd hkl;go_wp2_with fail;go_loopw [4,8] (fun sv sc wr=>∃q:Nat,q<=C∧sc=.int .i64 q∧E7 wb wr sv (b54 l q)∧Ext wb wr) (fun _ sc _=>C - (intOf sc).toNat);(case atStart=>exact⟨0,om,rfl,hOv,hE⟩);case round =>
     clear hE hOv hbx;obtain⟨q,hq,rfl,hOv,hE⟩:=hrel;have hle:=cq9 l q;have Hsn:=zh (dy6 l q);obtain⟨A,hA⟩:=nq (b54 l q);rw[<-hA] at hOv hle Hsn;by_cases hqt:q<C
     . have hqtI:(q:Int)<(C:Int):=(by omega);clear hA;obtain⟨wd,hwd⟩:=nq (wr.alloc (.cells #[] 3));have hOd:Own 3 wr wd (.slice (some ⟨wr.heap.size,0,none⟩) 0 0) []:=(by rw[hwd];exact m7 om (er wr) [] rfl);have hEd:Ext wr wd:=(by rw[hwd];exact (er wr).alloc _);have Hwd:=zh hwd;clear hwd;have hOo:=hOv.ext hEd;go_wp2_with fail;rw[<-Hwd.out];go_loopw [9,10,11] (fun sm sx si wq=>∃i:Nat,i<=l.length∧si=.int .i64 i∧sx=.int .i64 (bi4 (ord l) q i:Nat)∧Own 3 wr wq sm (b9 (V7 (ord l) q i))∧Ext wr wq) (fun _ _ si _=>l.length - (intOf si).toNat);(case atStart=>exact⟨0,om,rfl,rfl,hOd,hEd⟩);case round =>
        clear hEd hOd hOo;obtain⟨i,hi,rfl,rfl,hOm,hEm⟩:=hrel;have hbm:=hb _ (hE.trans hEm);have hqle:=jj8 (ord l) q i;have Hd1:Hid (V7 (ord l) q (i+1)=(bi4 (ord l) q i % ord l) :: V7 (ord l) q i):=zh rfl;have Hd2:Hid (bi4 (ord l) q (i+1)=bi4 (ord l) q i / ord l):=zh rfl;have hUl:=ce9 (ord l) q i;by_cases hit:i<l.length
        . have hitI:(i:Int)<(l.length:Int):=(by omega);have hUc:(b9 (V7 (ord l) q i)).length<=3:=(by rw[j2];omega);obtain⟨U,hU⟩:=nq (V7 (ord l) q i);obtain⟨x,hx⟩:=nq (bi4 (ord l) q i);rw[<-hU] at hOm Hd1 hUc;rw[<-hx] at hqle Hd1 Hd2 ⊢;clear hU hx hUl;have hne2:(((ord l:Nat):Int) == 0)=false:=(by simp;omega);have D:Hid (((x / ord l:Nat):Int)=(x:Int) / ((ord l:Nat):Int)):=zh (Int.natCast_ediv x (ord l));have Mo:Hid (((x % ord l:Nat):Int)=(x:Int) % ((ord l:Nat):Int)):=zh (Int.natCast_emod x (ord l));have m1:x % ord l<16777216:=(by have:=Nat.mod_le x (ord l);omega);have m2:x / ord l<16777216:=(by have:=Nat.div_le_self x (ord l);omega);have hmb:(0:Int)<=(x:Int) % ((ord l:Nat):Int)∧(x:Int) % ((ord l:Nat):Int)<16777216:=(by rw[<-Mo.out];exact⟨Int.natCast_nonneg _,Int.ofNat_lt.2 m1⟩);have hdb:(0:Int)<=(x:Int) / ((ord l:Nat):Int)∧(x:Int) / ((ord l:Nat):Int)<16777216:=(by rw[<-D.out];exact⟨Int.natCast_nonneg _,Int.ofNat_lt.2 m2⟩);clear m1 m2;rename World=>wm;have hEm1:=hEm.alloc (.cells #[.int .i64 ((x:Int) % ((ord l:Nat):Int))] 3);have hO1:Own 3 wr (wm.alloc (.cells #[.int .i64 ((x:Int) % ((ord l:Nat):Int))] 3)) (.slice (some ⟨wm.heap.size,0,none⟩) 1 1) [(x:Int) % ((ord l:Nat):Int)]:=m7 om hEm _ rfl;have hI1:=(hOm.ext ((er wm).alloc (.cells #[.int .i64 ((x:Int) % ((ord l:Nat):Int))] 3))).ints;go_wp2_with (at_builtin;refine I2 slI rfl _ _ rfl wr _ _ _ _ _ hO1 hI1 hEm1 (by simp;omega) rfl rfl ?_;intro v1 w2 hO2 hE2);go_roundw;(case rel=>exact⟨i+1,om,zg,by rw[Hd2.out,D.out],by rw[Hd1.out];show Own _ _ _ _ (((x % ord l:Nat):Int) :: b9 U);rw[Mo.out];exact hO2,hE2⟩);case measure=>exact zm1
        . have hitI:¬(i:Int)<(l.length:Int):=(by omega);have hil:i=l.length:=om;rw[hil] at hOm hUl;have HIo:=zh (cr6 (n:=ord l) om q l.length);clear Hd1 Hd2 hqle hil hi hit;obtain⟨I,hI⟩:=nq (V7 (ord l) q l.length);rw[<-hI] at hOm hUl HIo Hsn;have Hil:=zh hUl;clear hI hUl;have HFe:=zh (d93 l I);have HFl:=zh (dp2 Hgr.out I);have HAo:=zh (fun h=>dy5 (l:=l) (I:=I) h);have HAn:=zh (fun h=>dt6 (l:=l) (I:=I) h);have HAy:=zh (fun h h2=>dt7 (l:=l) (I:=I) h h2);rename World=>wm;obtain⟨aoI,cI,adrI,rfl,hadrI,hcellI⟩:=hOm.ints.nats;have hixI:=j3 (c:=cI) elI szI hadrI;have HIo2:=zh (fun j (hj:j<I.length)=>HIo.out _ (o6 hj));clear hadrI HIo;have hEs:=er wm;have hE2:=hE.trans hEm;have hOv2:=hOv.ext hEm;clear hOv hE hEm;go_wp2_with fail;clear hitI;go_loopw [12,13] (fun sf si wq=>∃i:Nat,i<=l.length∧si=.int .i64 i∧sf=.bool (Z7 l I i)∧Ext wm wq) (fun _ si _=>l.length - (intOf si).toNat);(case atStart=>exact⟨0,om,rfl,rfl,hEs⟩);case round =>
           clear hEs hbm;obtain⟨i,hi,rfl,rfl,hEs⟩:=hrel;have Hn:Hid (Z7 l I (i+1)=(Z7 l I i&&decide (Q9 l (d8 I i) (nth l i).toNat=0))):=zh rfl;by_cases hit:i<I.length
           . have hitI:(i:Int)<(I.length:Int):=(by omega);have hil:i<l.length:=(by have:=Hil.out;omega);have ho2:=E3 Hgr.out hil;obtain⟨o,ho⟩:∃o:Nat,nth l i=(o:Int):=⟨(nth l i).toNat,om⟩;rw[ho,Int.toNat_natCast] at Hn;rw[ho] at ho2;have kI:=fun U=>hcellI i _ hit (hEs.trans (d5 wr U));have kb:=fun U=>hb _ (hE2.trans (hEs.trans (d5 wr U)));have kG:=fun U=>hcell i _ hil (hE0.trans (hE2.trans (hEs.trans (d5 wr U))));simp only[ho] at kG;have hIi:=HIo2.out i hit;have hM:=br8 Hgr.out (d8 I i) o;have m1:=fun U=>bs8 _ l (d8 I i) o _ (hg _ (hE2.trans (hEs.trans (d5 wr U)))) Hgr (c86 Hgr.out hIi) om om;have hzq:(((Q9 l (d8 I i) o:Nat):Int) == 0)=decide (Q9 l (d8 I i) o=0):=by
              rw[Bool.eq_iff_iff,beq_iff_eq,decide_eq_true_iff];omega
             obtain⟨M,hMd⟩:=nq (Q9 l (d8 I i) o);rw[<-hMd] at Hn hM hzq;simp only[<-hMd] at m1;clear hMd ho;obtain⟨d,hd⟩:=nq (decide (M=0));rw[<-hd] at Hn hzq;clear hd;have hEb:=hEs;clear hEs;have hE:=er wr;cases hf:Z7 l I i
             . have Hn2:Hid (Z7 l I (i+1)=false):=zh (by rw[Hn.out,hf];rfl);exact zz74
             . have Hn2:Hid (Z7 l I (i+1)=d):=zh (by rw[Hn.out,hf];rfl);exact zz74
           . have hitI:¬(i:Int)<(I.length:Int):=(by omega);have hil:i=l.length:=(by have:=Hil.out;omega);have hE3:=hE2.trans hEs;have hO3:=hOv2.ext hEs;have hI3:=hOm.ints.ext hEs;have hb3:=hb _ hE3;clear Hn hE2 hOv2 hOm hi hit;cases hf:Z7 l I i
             . have Hs2:Hid (b54 l (q+1)=A):=zh (by rw[Hsn.out,HAo.out (by rw[<-hil];exact hf)];omega);clear hil hf;go_wp2_with fail;go_roundw;(case rel=>exact⟨q+1,om,zg,by rw[Hs2.out];exact hO3,hE3⟩);case measure=>exact zm1
             . have Hf:Hid (Z7 l I l.length=true):=zh (by rw[<-hil];exact hf);have cX:=dl0 _ l _ I wr (hg _ hE3) hI3 Hgr Hil.out (fun y hy=>by obtain⟨j,hj,rfl⟩:=List.getElem_of_mem hy;have:=HIo2.out j hj;simpa[d8,List.getD,hj] using this);obtain⟨F,hF⟩:=nq (b11 l I);rw[<-hF] at cX HFe HFl;have HF:=zh hF;clear hil hF;have cA:=fun W vf (hW:Ext wr W) (hf:c9 W vf (b9 F))=>bx6 _ l vf F W (hg _ (hE3.trans hW)) hf Hgr HFe.out HFl.out;cases ha:Z0 l F
               . have Hs2:Hid (b54 l (q+1)=A):=zh (by rw[Hsn.out,HAn.out (by rw[<-HF.out];exact ha)];omega);rw[ha] at cA;clear ha hf;go_wp2_with (first | (go_at_call 280;refine cX.mono ?_;rintro e w4 ⟨vf,rfl,hO4,hE4⟩;have hb4:=hb _ (hE3.trans hE4);have hI4:=hO4.ints) | (go_at_call 281;refine (cA _ _ hE4 hI4).mono ?_;rintro e w5 ⟨rfl,hE5⟩));go_roundw;(case rel=>exact⟨q+1,om,zg,by rw[Hs2.out];exact hO3.ext (hE4.trans hE5),hE3.trans (hE4.trans hE5)⟩);case measure=>exact zm1
               . have Hs2:Hid (b54 l (q+1)=A+1):=zh (by rw[Hsn.out,HAy.out Hf.out (by rw[<-HF.out];exact ha)]);rw[ha] at cA;clear ha hf;go_wp2_with (first | (go_at_call 280;refine cX.mono ?_;rintro e w4 ⟨vf,rfl,hO4,hE4⟩;have hb4:=hb _ (hE3.trans hE4);have hI4:=hO4.ints;obtain⟨aoF,cF,rfl,-⟩:=hO4.shape) | (go_at_call 281;refine (cA _ _ hE4 hI4).mono ?_;rintro e w5 ⟨rfl,hE5⟩;have hO5:=hO3.ext (hE4.trans hE5);have hE35:=hE3.trans (hE4.trans hE5)) | (at_builtin;refine cd2 rfl _ _ rfl wb _ _ A _ _ _ hO5 hE35 om rfl rfl ?_;intro v6 w6 hO6 hG6 hN6;have hE6:=hE35.grown hG6 (fun k hk=>(hO5.blk k hk).1)));go_roundw;(case rel=>exact⟨q+1,om,zg,by rw[Hs2.out];exact hO6,hE6⟩);case measure=>exact zm1
     . have hqtI:¬(q:Int)<(C:Int):=(by omega);have hqC:q=C:=om;rw[hqC] at hA;have HA:=zh hA;clear hA hqC;have hbr:=hb _ hE;obtain⟨ao2,c2,rfl,-⟩:=hOv.shape;go_wp2_with fail;exact bodyPost_ret (v:=.tuple #[.slice ao2 A c2,.bool true]) (by simp[results,Tryz.results178,go_sem]) rfl ⟨_,rfl,by rw[HC.out,<-HA.out];exact hOv.mono hE0,hE0.trans hE⟩
theorem bk8(v:Value)(l:List Int)(w:World)(h:c9 w v l) :
 Calls Tryz.prog 58 #[.agg #[v]] w fun e w'=>e=.returned (.int .i64 (if auB l then (b54 l (ord l ^ l.length):Int) else -1))∧Ext w w':=by
 obtain⟨wb,Hwb,hE0,hb,hg,hE,Hsz⟩:=ju3 28 h;clear h;have hbx:=hb _ hE;cases hn:auB l
 . have cA:=bz2 v l wb (hg _ hE) hn;clear hn;go_in;go_wp2_with fail;rw[<-Hwb.out];go_wp2_with (go_at_call 178;refine cA.mono ?_;rintro e w3 ⟨v3,rfl,hE3⟩);go_ret;exact⟨rfl,hE0.trans hE3⟩
 . have cA:=bx5 v l wb (hg _ hE) hn;have Hle:Hid (b54 l (ord l ^ l.length)<=729):=zh (by
    have hh:j1 l=true∧ord l<=9:=(by unfold auB at hn;simpa using hn);exact nle (cq9 l _) (ch4 hh.2 (C6 hh.1)))
   clear hn;obtain⟨A,hA⟩:=nq (b54 l (ord l ^ l.length));rw[<-hA] at cA ⊢;clear hA;go_in;go_wp2_with fail;rw[<-Hwb.out];go_wp2_with (go_at_call 178;refine cA.mono ?_;rintro e w3 ⟨v3,rfl,hO3,hE3⟩;obtain⟨ao3,c3,rfl,-⟩:=hO3.shape);go_ret;exact⟨rfl,hE0.trans hE3⟩
theorem jr3{bR m:Nat}{X:List Nat}{w:World}(h:N9 bR m X w)(hX:X.length=m){i:Nat}(hi:i<m):∀W,Ext w W->W.cell? ⟨bR,i,none⟩=some (.int .i64 (d8 X i)):=by
 intro W hW;obtain⟨Z,h1,h2,h3⟩:=h.ext hW;have hZ:Z=b9 X:=by rw[<-h2,List.take_of_length_le om]
 subst hZ;refine h3.cell (i:=i) ?_;rw[<-H8];simp[nth,List.getD,show i<(b9 X).length by omega]
theorem j50(bR m:Nat):∀(i:Nat) W,i<m->(Instr.indexAt 26 (.slice (some ⟨bR,0,none⟩) m m) (.int .i64 (i:Int))).run Tryz.prog W=.ok (.pointer (some ⟨bR,i,none⟩)) W:=fun i W hi=>by
 rw[run_indexAt_slice (h:=elI),if_pos om,szI]
 exact zz71
def be4(w0:World)(m bI bG bT bO k:Nat)(bR:Nat)(w:World):Prop :=
 Ext w0 w∧Blk w bI 26 #[.slice (some ⟨bR,0,none⟩) m m]∧Blk w bT 158 #[.func (.func 298) #[] #[.pointer (some ⟨bI,0,none⟩),.pointer (some ⟨bG,0,none⟩),.pointer (some ⟨bT,0,none⟩),.pointer (some ⟨bO,0,none⟩)]] ∧
  ∃vo,Blk w bO 93 #[vo]∧E7 w0 w vo k∧(∀g,vo.ownBlock=some g->g≠bI)
theorem be4.ext{w0 w W:World}{m bI bG bT bO k bR:Nat}(h:be4 w0 m bI bG bT bO k bR w)(hE:Ext w W):be4 w0 m bI bG bT bO k bR W:=by
 obtain⟨h1,h2,h3,vo,h4,h5,h6⟩:=h;exact⟨h1.trans hE,h2.ext hE,h3.ext hE,vo,h4.ext hE,h5.ext hE,h6⟩
theorem be4.set{w0 w:World}{m bI bG bT bO k bR:Nat}{Z:Array Value}(h:be4 w0 m bI bG bT bO k bR w)(hR:Blk w bR 3 Z)(h0:w0.heap.size<=bR)(hI:bI≠bR)(hT:bT≠bR)(hO:bO≠bR)(i:Nat)(v:Value):be4 w0 m bI bG bT bO k bR (w.setCell ⟨bR,i,none⟩ v):=by
 obtain⟨h1,h2,h3,vo,h4,h5,h6⟩:=h;exact⟨h1.setCell h0 _,h2.other hI _,h3.other hT _,vo,h4.other hO _,h5.set_ne (h5.not hR (by decide)) _,h6⟩
theorem dj0(v:Value)(l:List Int)(Hgr:Hid (j1 l=true))(w0:World)(bI bG bT bO bR:Nat)(HG:∀W,Ext w0 W->W.cell? ⟨bG,0,none⟩=some v)(HI:∀W,Ext w0 W->c9 W v l)(h0:w0.heap.size<=bO)(hRO:bR≠bO)(hIO:bI≠bO)(hTO:bT≠bO)
 (X:List Nat) (k:Nat) (w:World) (hX:X.length=l.length) (hXo:∀x∈X,x<ord l) (hk:k<1000000) (hst:be4 w0 l.length bI bG bT bO k bR w) (hrow:N9 bR l.length X w) :
 Calls Tryz.prog 298 #[.int .i64 X.length,.pointer (some ⟨bI,0,none⟩),.pointer (some ⟨bG,0,none⟩),.pointer (some ⟨bT,0,none⟩),.pointer (some ⟨bO,0,none⟩)] w fun e w' =>
  e=.returned (.tuple #[])∧N9 bR l.length X w'∧be4 w0 l.length bI bG bT bO (k+L0 l 0 X) bR w':=by
 have HRow:=zh (fun i (hi:i<l.length)=>jr3 hrow hX hi)
 have hixR:=j50 bR l.length
 have HS:=zh hst
 have HR:=zh hrow
 obtain⟨hE00,hbI,-,-⟩:=hst
 have hI:∀W,Ext w W->W.cell? ⟨bI,0,none⟩=some (.slice (some ⟨bR,0,none⟩) l.length l.length):=fun W hW=>(hbI.ext hW).cell (i:=0) rfl
 have hG:∀W,Ext w W->W.cell? ⟨bG,0,none⟩=some v:=fun W hW=>HG W (hE00.trans hW)
 have hg:∀W,Ext w W->c9 W v l:=fun W hW=>HI W (hE00.trans hW)
 have hXl:((X.length:Nat):Int)=((l.length:Nat):Int):=om
 have HXl:=zh hXl
 have hob:=m8 Hgr.out
 have hl3:=C6 Hgr.out
 have HXo:=zh (fun i (hi:i<l.length)=>hXo _ (o6 (by omega:i<X.length)))
 have HFe:=zh (d93 l X)
 have HFl:=zh (dp2 Hgr.out X)
 have Hx:Hid (b11 l X=(List.range (ord l)).map (exV l X)):=zh rfl
 have HA:Hid (L0 l 0 X=if Z0 l (b11 l X) then 1 else 0):=zh rfl
 rw[hXl]
 clear hXl hX hXo hrow hbI HG HI
 have hcI:=hI w (er w)
 have hO:Own 3 w (w.alloc (.cells #[] 3)) (.slice (some ⟨w.heap.size,0,none⟩) 0 0) []:=m7 om (er w) [] rfl
 have hE:Ext w (w.alloc (.cells #[] 3)):=(er w).alloc _
 have hGc:=hG _ hE
 have cO:=fun W (hW:Ext w W)=>p7 v l W (hg W hW) Hgr
 go_in
 go_wp2_with (go_at_call 99;refine (cO _ hE).mono ?_;rintro e w1 ⟨rfl,hE1⟩)
 replace hO:=hO.ext hE1
 replace hE:=hE.trans hE1
 clear hE1 hGc hcI
 go_loopw [7,33] (fun sv sx wr=>∃x:Nat,x<=ord l∧sx=.int .i64 x∧Own 3 w wr sv (b9 ((List.range x).map (exV l X)))∧Ext w wr) (fun _ sx _=>ord l - (intOf sx).toNat)
 case atStart=>exact⟨0,om,rfl,hO,hE⟩
 case round =>
  clear hE hO;obtain⟨x,hx,rfl,hO,hE⟩:=hrel;have hGx:=hG _ hE;have hAl:(b9 ((List.range x).map (exV l X))).length<17592186044416:=by rw[j2,List.length_map,List.length_range];omega
  by_cases hlt:x<ord l
  . have hltI:(x:Int)<(ord l:Int):=(by omega);have hPl:=bh2 l x l.length;have HPx:=zh (fun i (hi:i<l.length)=>cn6 l x hi);have Hv:Hid (exV l X x=lcT l X (plP l x l.length) l.length):=zh rfl;have cP:=fun W (hW:Ext w W)=>dw4 v l x W (hg W hW) Hgr om;obtain⟨P,hP⟩:=nq (plP l x l.length);rw[<-hP] at hPl Hv;simp only[<-hP] at cP HPx;have HPl:=zh hPl;clear hP hPl;have Hs:Hid ((List.range (x+1)).map (exV l X)=(List.range x).map (exV l X)++[exV l X x]):=zh (cw8 l X);obtain⟨A,hA⟩:=nq ((List.range x).map (exV l X));rw[<-hA] at hO hAl Hs;clear hA;go_wp2_with (go_at_call 299;refine (cP _ hE).mono ?_;rintro e w2 ⟨vp,rfl,hOp,hE2⟩;obtain⟨aoP,cP2,adrP,rfl,hadrP,hcellP⟩:=hOp.ints.nats;have hixP:=j3 (c:=cP2) elI szI hadrP;clear hadrP);have hE02:=hE.trans hE2;have hO2:=hO.ext hE2;clear hE hO hGx hOp hE2;have hEs:=er w2;go_loopw [9,40] (fun sz si wq=>∃i:Nat,i<=l.length∧si=.int .i64 i∧sz=.int .i64 (lcT l X P i:Nat)∧Ext w2 wq) (fun _ si _=>P.length - (intOf si).toNat);(case atStart=>exact⟨0,om,rfl,rfl,hEs⟩);case round =>
     clear hEs;obtain⟨i,hi,rfl,rfl,hEs⟩:=hrel;by_cases hiP:i<P.length
     . have hitI:(i:Int)<(P.length:Int):=(by omega);have hit:i<l.length:=(by have:=HPl.out;omega);have kR:=fun U=>HRow.out i hit _ (hE02.trans (hEs.trans (d5 wr U)));have kI:=fun U=>hI _ (hE02.trans (hEs.trans (d5 wr U)));have kP:=hcellP i _ hiP hEs;have kb:=fun U=>hG _ (hE02.trans (hEs.trans (d5 wr U)));have hXi:=HXo.out i hit;have hPi:=HPx.out i hit;have hT:=cm5 Hgr.out X P i;have hM:=br8 Hgr.out (d8 X i) (d8 P i);have m1:=fun U=>j69 v l (d8 X i) (d8 P i) _ (hg _ (hE02.trans (hEs.trans (d5 wr U)))) Hgr om om;have a1:=fun U=>R5 v l (lcT l X P i) (Q9 l (d8 X i) (d8 P i)) _ (hg _ (hE02.trans (hEs.trans (d5 wr U)))) Hgr om om;have Hn:Hid (lcT l X P (i+1)=m6 l (lcT l X P i) (Q9 l (d8 X i) (d8 P i))):=zh rfl;have hEb:=hEs;clear hEs;have hE:=er wr;go_wp2_with fail;(refine wl hE ?_);(repeat (go_big_quiet_step (first | (go_at_call 300;with_reducible exact Calls.lat (m1 _)) | (go_at_call 224;with_reducible exact Calls.lat (a1 _)))));exact zz138
     . have hil:i=l.length:=(by have:=HPl.out;omega);have hitI:¬(i:Int)<(P.length:Int):=om;have hO3:=hO2.ext hEs;have hE3:=hE02.trans hEs;have HitI:=zh hitI;clear hitI hiP;rw[hil,<-Hv.out];rw[hil] at HitI;have hitI:=HitI.out;clear hil hi;obtain⟨z,hz⟩:=nq (exV l X x);rw[<-hz] at Hs ⊢;clear hz;go_wp2_with (at_builtin;refine A6 slI rfl _ _ rfl w _ _ _ _ hO3 hE3 hAl rfl rfl ?_;intro v1 w1 hO1 hE1);exact zz184
  . have hltI:¬(x:Int)<(ord l:Int):=(by omega);have hxl:x=ord l:=om;rw[hxl,<-Hx.out] at hO;clear hAl hxl hx hlt;obtain⟨F,hF⟩:=nq (b11 l X);rw[<-hF] at hO HFe HFl HA;clear hF;have cA:=bz0 _ l _ F wr (hg _ hE) hO.ints Hgr HFe.out HFl.out;obtain⟨aoF,cF,rfl,-⟩:=hO.shape;have hS:=HS.out.ext hE;have hRw:=HR.out.ext hE;cases ha:Z0 l F
    . have HA2:Hid (L0 l 0 X=0):=zh (by rw[HA.out,ha];rfl);rw[ha] at cA;clear ha;go_wp2_with (go_at_call 301;refine cA.mono ?_;rintro e w5 ⟨rfl,hE5⟩);go_end0;exact⟨rfl,hRw.ext hE5,by rw[HA2.out];exact hS.ext hE5⟩
    . have HA2:Hid (L0 l 0 X=1):=zh (by rw[HA.out,ha];rfl);rw[ha] at cA;clear ha;obtain⟨s1,s2,s3,vo,s4,s5,s6⟩:=hS;obtain⟨aoO,cO2,rfl,-⟩:=s5.shape;have hob:=s5.not s4 (by decide);have hobT:=s5.not s3 (by decide);have hne:∀g,(Value.slice aoO k cO2).ownBlock=some g->g≠bO:=fun g hg e=>hob (by rw[hg,e]);have hneT:∀g,(Value.slice aoO k cO2).ownBlock=some g->g≠bT:=fun g hg e=>hobT (by rw[hg,e]);have hneR:∀g,(Value.slice aoO k cO2).ownBlock=some g->g≠bR:=fun g hg e=>by
       obtain⟨Z,-,-,hZ⟩:=hRw
       exact s5.not hZ (by decide) (by rw[hg,e])
      have kO:∀W,Ext wr W->W.cell? ⟨bO,0,none⟩=some (.slice aoO k cO2):=fun W hW=>(s4.ext hW).cell (i:=0) rfl;have Hhob:=zh hob;clear hob hobT;go_wp2_with (first | (go_at_call 301;refine cA.mono ?_;rintro e w5 ⟨rfl,hE5⟩;have kO5:=kO _ hE5;have hO5:=s5.ext hE5;have hB5:=s4.ext hE5;have hE05:=s1.trans hE5;have kO6:=kO _ (hE5.alloc (.cells #[.slice aoF (b9 F).length cF] 26))) | (at_builtin;refine cd2 rfl _ _ rfl w0 _ _ k _ _ _ hO5 hE05 hk rfl rfl ?_;intro v6 w6 hO6 hG6 hN6;obtain⟨a6,c6,rfl,-⟩:=hO6.shape;have hB6:=hB5.grown hG6 hne;have hc6:=hB6.cell (i:=0) (v:=.slice aoO k cO2) rfl;have hf6:=hB6.free 0));go_end0;have hE06:Ext w0 w6:=hE05.grown hG6 (fun g hg=>(hO5.blk g hg).1);have hI6:=(s2.ext hE5).grown hG6 s6;have hT6:=(s3.ext hE5).grown hG6 hneT;refine⟨rfl,?_,?_⟩
      . obtain⟨Z,z1,z2,hZ⟩:=hRw.ext hE5;exact⟨Z,z1,z2,(hZ.grown hG6 hneR).other (by simpa using hRO) _⟩
      . rw[HA2.out];refine⟨hE06.setCell h0 _,hI6.other (by simpa using hIO) _,hT6.other (by simpa using hTO) _,_,hB6.set 0 _,hO6.set_ne (hO6.not hB6 (by decide)) _,?_⟩;intro g hg;rcases hN6 with hN | hN
        . exact s6 g (by rw[<-hN];exact hg)
        . have h1:=hN g hg;have h2:=(s2.ext hE5).lt;omega
theorem dt8(v:Value)(l:List Int)(Hgr:Hid (j1 l=true))(w0:World)(bI bG bT bO bR:Nat)(HG:∀W,Ext w0 W->W.cell? ⟨bG,0,none⟩=some v)(HI:∀W,Ext w0 W->c9 W v l)(h0:w0.heap.size<=bO)(h0R:w0.heap.size<=bR)(hRO:bR≠bO)(hIO:bI≠bO)(hTO:bT≠bO)(hIR:bI≠bR)(hTR:bT≠bR) :
 ∀r X k w,X.length+r=l.length->(∀x∈X,x<ord l)->k+L0 l r X<=729->be4 w0 l.length bI bG bT bO k bR w->N9 bR l.length X w ->
 Calls Tryz.prog 298 #[.int .i64 X.length,.pointer (some ⟨bI,0,none⟩),.pointer (some ⟨bG,0,none⟩),.pointer (some ⟨bT,0,none⟩),.pointer (some ⟨bO,0,none⟩)] w fun e w' =>
  e=.returned (.tuple #[])∧N9 bR l.length X w'∧be4 w0 l.length bI bG bT bO (k+L0 l r X) bR w':=by
 intro r
 induction r with
 | zero =>
  intro X k w hr hX hkK hst hrow
  exact dj0 v l Hgr w0 bI bG bT bO bR HG HI h0 hRO hIO hTO X k w om hX om hst hrow
 | succ r ih =>
  intro X k w hr hX hkK hst hrow
  have HkK:=zh hkK
  have Hih:=zh ih
  have HX:=zh hX
  have hob:=m8 Hgr.out
  have hl3:=C6 Hgr.out
  have hlt:X.length<l.length:=om
  have hr2:=zh hr
  have HA:Hid (L0 l (r+1) X=M9 (fun x=>L0 l r (X++[x])) (ord l)):=zh rfl
  clear hkK ih hX hr
  have hg:=fun W (hW:Ext w W)=>HI W (hst.1.trans hW)
  have hcG:=HG w hst.1
  have hcI:w.cell? ⟨bI,0,none⟩=some (.slice (some ⟨bR,0,none⟩) l.length l.length):=hst.2.1.cell (i:=0) rfl
  have cO:=p7 v l w (HI w hst.1) Hgr
  have hltI:((X.length:Nat):Int)<((l.length:Nat):Int):=om
  have hixR:=j50 bR l.length
  have HS:=zh hst
  have HR:=zh hrow
  clear hst hrow
  go_in
  go_wp2_with (go_at_call 99;refine cO.mono ?_;rintro e w1 ⟨rfl,hE1⟩)
  have hS1:=HS.out.ext hE1
  have hR1:=HR.out.ext hE1
  clear hcG hcI
  go_loopw [18] (fun sq wr=>∃q:Nat,q<=ord l∧sq=.int .i64 q∧N9 bR l.length X wr∧be4 w0 l.length bI bG bT bO (k+M9 (fun x=>L0 l r (X++[x])) q) bR wr) (fun sq _=>ord l - (intOf sq).toNat)
  case atStart=>exact⟨0,om,rfl,hR1,hS1⟩
  case round =>
   clear hS1 hR1;obtain⟨q,hq,rfl,hrow,hst⟩:=hrel;by_cases hqt:q<ord l
   . have hqtI:(q:Int)<(ord l:Int):=(by omega);have hcI:wr.cell? ⟨bI,0,none⟩=some (.slice (some ⟨bR,0,none⟩) l.length l.length):=hst.2.1.cell (i:=0) rfl;obtain⟨vz,kz⟩:=hrow.has hlt;have hfz:=hrow.free X.length;have hrow1:=hrow.set hlt q;have hst1:be4 w0 l.length bI bG bT bO (k+M9 (fun x=>L0 l r (X++[x])) q) bR (wr.setCell ⟨bR,X.length,none⟩ (.int .i64 (q:Int))):=by
      obtain⟨Z,-,-,hZ⟩:=hrow;exact hst.set hZ h0R hIR hTR (fun e=>hRO e.symm) _ _
     have hcT:(wr.setCell ⟨bR,X.length,none⟩ (.int .i64 (q:Int))).cell? ⟨bT,0,none⟩=some (.func (.func 298) #[] #[.pointer (some ⟨bI,0,none⟩),.pointer (some ⟨bG,0,none⟩),.pointer (some ⟨bT,0,none⟩),.pointer (some ⟨bO,0,none⟩)]):=hst1.2.2.1.cell (i:=0) rfl;have hix:=hixR X.length wr hlt;have hwl:IntKind.i64.wrap (((X.length:Nat):Int)+1)=((X.length:Nat):Int)+1:=IntWalk.i64_in _ om;have HKq:k+M9 (fun x=>L0 l r (X++[x])) q+L0 l r (X++[q])<=729:=by
      have h1:=HkK.out;rw[HA.out] at h1;have h2:=d06 (fun x=>L0 l r (X++[x])) (q+1) (ord l - (q+1));rw[show q+1+(ord l - (q+1))=ord l by omega] at h2;have h3:M9 (fun x=>L0 l r (X++[x])) (q+1)=M9 (fun x=>L0 l r (X++[x])) q+L0 l r (X++[q]):=rfl;omega
     have cR:=Hih.out (X++[q]) _ _ (by rw[List.length_append,List.length_singleton];have:=hr2.out;omega) (fun x hx=>by
      rw[List.mem_append,List.mem_singleton] at hx
      rcases hx with hx | rfl
      . exact HX.out x hx
      . exact hqt) HKq hst1 hrow1
     rw[show (((X++[q]).length:Nat):Int)=((X.length:Nat):Int)+1 by rw[List.length_append,List.length_singleton];omega] at cR;have Hn:Hid (k+M9 (fun x=>L0 l r (X++[x])) (q+1)=k+M9 (fun x=>L0 l r (X++[x])) q+L0 l r (X++[q])):=zh (by rw[Nat.add_assoc];rfl);clear hst hrow hst1 hrow1 HKq;go_wp2_with (go_at_call 298;refine cR.mono ?_;rintro e w2 ⟨rfl,hR2,hS2⟩);go_roundw;(case rel=>exact⟨q+1,om,zg,hR2.back,by rw[Hn.out];exact hS2⟩);case measure=>exact zm1
   . have hqn:q=ord l:=(by omega);have hqtI:¬(q:Int)<(ord l:Int):=om;go_wp2_with fail;exact bodyPost_ret (v:=.tuple #[]) (by simp[results,Tryz.results298,go_sem]) rfl ⟨rfl,hrow,by rw[HA.out,<-hqn];exact hst⟩
theorem dd8{w0 w:World}{g n:Nat}{l:List Int}(h:Own 3 w0 w (.slice (some ⟨g,0,none⟩) n n) l)(hn:l.length=n):Blk w g 3 (l.map (Value.int .i64)).toArray:=by
 obtain⟨⟨h1,h2⟩,-⟩:=h;rcases h2 with ⟨hv,-⟩ | ⟨g',cap,cur,hv,hg,hh,hnc,hcm,hcs,htk⟩
 . simp at hv
 . simp only[Value.slice.injEq,Option.some.injEq,Addr.mk.injEq,and_true] at hv;obtain⟨rfl,-,rfl⟩:=hv;have e:cur=(l.map (Value.int .i64)).toArray:=by
    apply Array.toList_inj.1;rw[<-htk,List.take_of_length_le (by simp[hcs];omega)]
   rw[<-e];exact hh
theorem bz6(v:Value)(l:List Int)(w:World)(h:c9 w v l)(hn:auB l=false) :
 Calls Tryz.prog 213 #[.agg #[v]] w fun e w'=>∃v',e=.returned (.tuple #[v',.bool false])∧Ext w w':=by
 have hg0:=h;obtain⟨wb,Hwb,hE0,hb,hg,hE,Hsz⟩:=ju3 28 h;clear h;have cG:=fun W (hW:Ext wb W)=>A1 v l W (hg W hW);have hE1:=(hE.alloc (.cells #[] 26)).alloc (.cells #[.slice (some ⟨wb.heap.size,0,none⟩) 0 0] 93);have hb1:=hb _ hE1;have kO:((wb.alloc (.cells #[] 26)).alloc (.cells #[.slice (some ⟨wb.heap.size,0,none⟩) 0 0] 93)).cell? ⟨(wb.alloc (.cells #[] 26)).heap.size,0,none⟩=some (.slice (some ⟨wb.heap.size,0,none⟩) 0 0):=(Blk.new _ _ _).cell (i:=0) rfl;have hs1:(wb.alloc (.cells #[] 26)).heap.size=wb.heap.size+1:=zm;rw[hs1] at kO;clear hs1;obtain⟨wc,hwc⟩:=nq ((wb.alloc (.cells #[] 26)).alloc (.cells #[.slice (some ⟨wb.heap.size,0,none⟩) 0 0] 93));rw[<-hwc] at hE1 hb1 kO;have Hwc:=zh hwc;clear hwc;have kO2:=fun W (hW:Ext wc W)=>hW.cell kO;cases hgr:j1 l
 . rw[hgr] at cG;go_in;go_wp2_with fail;rw[<-Hwb.out];rw[Hsz.out];rw[<-Hwc.out];go_wp2_with (go_at_call 94;refine (cG _ hE1).mono ?_;rintro e w1 ⟨rfl,hE2⟩;have hb2:=hb _ (hE1.trans hE2);have kO3:=kO2 _ hE2);exact bodyPost_ret (v:=.tuple #[.slice (some ⟨wb.heap.size,0,none⟩) 0 0,.bool false]) (by simp[results,Tryz.results213,go_sem]) rfl ⟨_,rfl,hE0.trans (hE1.trans hE2)⟩
 . rw[hgr] at cG;have Hgr:=zh hgr;have h9:¬(ord l<=9):=by
    intro h9;unfold auB at hn;rw[hgr,decide_eq_true h9] at hn;cases hn
   have h9I:(9:Int)<(ord l:Int):=om;have cO:=fun W (hW:Ext wb W)=>p7 v l W (hg W hW) Hgr;clear hgr hn;go_in;go_wp2_with fail;rw[<-Hwb.out];rw[Hsz.out];rw[<-Hwc.out];go_wp2_with (first | (go_at_call 94;refine (cG _ hE1).mono ?_;rintro e w1 ⟨rfl,hE2⟩;have hE12:=hE1.trans hE2;have hb2:=hb _ hE12) | (go_at_call 99;refine (cO _ hE12).mono ?_;rintro e w3 ⟨rfl,hE3⟩;have kO3:=kO2 _ (hE2.trans hE3)));exact bodyPost_ret (v:=.tuple #[.slice (some ⟨wb.heap.size,0,none⟩) 0 0,.bool false]) (by simp[results,Tryz.results213,go_sem]) rfl ⟨_,rfl,hE0.trans (hE12.trans hE3)⟩
theorem by7(v:Value)(l:List Int)(w:World)(h:c9 w v l)(hn:auB l=true) :
 Calls Tryz.prog 213 #[.agg #[v]] w fun e w'=>∃v',e=.returned (.tuple #[v',.bool true])∧E7 w w' v' (L0 l l.length [])∧Ext w w':=by
 have hop:=h.op;have hg0:=h;obtain⟨wb,Hwb,hE0,hb,hg,hE,Hsz⟩:=ju3 28 h;clear h;obtain⟨ao,c,adr,rfl,hlen,hadr,hcell⟩:=hop;clear hadr hcell;obtain⟨hgr,h9⟩:j1 l=true∧ord l<=9:=by unfold auB at hn;simpa using hn
 have Hgr:=zh hgr;have hl3:=C6 hgr;have hob:=m8 hgr;have Hle:Hid (L0 l l.length []<=729):=zh (nle (cr0 l l.length []) (ch4 h9 hl3));have cG:=fun W (hW:Ext wb W)=>A1 _ l W (hg W hW);rw[hgr] at cG;clear hgr hn;have cO:=fun W (hW:Ext wb W)=>p7 _ l W (hg W hW) Hgr;have h9I:¬(9:Int)<(ord l:Int):=om;have hO0:E7 wb (wb.alloc (.cells #[] 26)) (.slice (some ⟨wb.heap.size,0,none⟩) 0 0) 0:=be1 hE;have hE1:=(hE.alloc (.cells #[] 26)).alloc (.cells #[.slice (some ⟨wb.heap.size,0,none⟩) 0 0] 93);have hb1:=hb _ hE1;have hs1:(wb.alloc (.cells #[] 26)).heap.size=wb.heap.size+1:=zm;have B1:Blk ((wb.alloc (.cells #[] 26)).alloc (.cells #[.slice (some ⟨wb.heap.size,0,none⟩) 0 0] 93)) (wb.heap.size+1) 93 #[.slice (some ⟨wb.heap.size,0,none⟩) 0 0]:=by rw[<-hs1];exact Blk.new _ _ _
 have hO1:=hO0.ext ((er _).alloc (.cells #[.slice (some ⟨wb.heap.size,0,none⟩) 0 0] 93));obtain⟨wc,hwc⟩:=nq ((wb.alloc (.cells #[] 26)).alloc (.cells #[.slice (some ⟨wb.heap.size,0,none⟩) 0 0] 93));rw[<-hwc] at hE1 hb1 B1 hO1;have Hwc:=zh hwc;clear hwc hO0 hs1;have hmf:∀(fn:Fn) (first cap:Array Value) (w:World),(Instr.makeFunc fn first cap).run Tryz.prog w=.ok (.func fn first cap) w:=fun _ _ _ _=>rfl;go_in;go_wp2_with fail;rw[<-Hwb.out];rw[Hsz.out];rw[<-Hwc.out];go_wp2_with (first | (go_at_call 94;refine (cG _ hE1).mono ?_;rintro e w1 ⟨rfl,hE2⟩;have hE12:=hE1.trans hE2;have hb2:=hb _ hE12) | (go_at_call 99;refine (cO _ hE12).mono ?_;rintro e w3 ⟨rfl,hE3⟩;have hE13:=hE12.trans hE3;have hb3:=hb _ hE13) | (at_make;refine X5 slI rfl _ _ rfl _ _ l.length rfl rfl om (er _) ?_;intro w4 hO4 hE4));obtain⟨w5,h5⟩:=nq (w4.alloc (.cells #[.slice (some ⟨w3.heap.size,0,none⟩) l.length l.length] 26));obtain⟨w6,h6⟩:=nq (w5.alloc (.cells #[.func (.func 298) #[] #[.pointer (some ⟨w4.heap.size,0,none⟩),.pointer (some ⟨w.heap.size,0,none⟩),.pointer (some ⟨w4.heap.size+1,0,none⟩),.pointer (some ⟨wb.heap.size+1,0,none⟩)]] 158));rw[<-h5,<-h6];have s5:w5.heap.size=w4.heap.size+1:=by rw[h5];simp
 have e45:Ext w4 w5:=by rw[h5];exact (er _).alloc _
 have e56:Ext w5 w6:=by rw[h6];exact (er _).alloc _
 have B4:=dd8 hO4 zm;have B5:Blk w5 w4.heap.size 26 #[.slice (some ⟨w3.heap.size,0,none⟩) l.length l.length]:=by rw[h5];exact Blk.new _ _ _
 have B6:Blk w6 (w4.heap.size+1) 158 #[.func (.func 298) #[] #[.pointer (some ⟨w4.heap.size,0,none⟩),.pointer (some ⟨w.heap.size,0,none⟩),.pointer (some ⟨w4.heap.size+1,0,none⟩),.pointer (some ⟨wb.heap.size+1,0,none⟩)]]:=by rw[h6,<-s5];exact Blk.new _ _ _
 have z3:=hE13.size;have z13:=(hE2.trans hE3).size;have z4:=B4.lt;have z1:=B1.lt;have e46:=e45.trans e56;have eW6:=hE13.trans (hE4.trans e46);clear h5 h6;have cT:=dt8 _ l Hgr wb w4.heap.size w.heap.size (w4.heap.size+1) (wb.heap.size+1) w3.heap.size hb (fun W hW=>hg W hW) om om om om om om om
  l.length [] 0 w6 zm zm (by have:=Hle.out;omega)
  ⟨eW6,B5.ext e56,B6,_,B1.ext ((hE2.trans hE3).trans (hE4.trans e46)),hO1.ext ((hE2.trans hE3).trans (hE4.trans e46)),fun g hg=>by have:=(hO1.blk g hg).2;omega⟩ ((ch9 B4).ext e46)
 rw[Nat.zero_add] at cT;refine Calls.mono cT ?_;rintro e w7 ⟨rfl,-,hS⟩;obtain⟨s1,-,-,vo,s4,s5',-⟩:=hS;obtain⟨aoO,cO2,rfl,-⟩:=s5'.shape;have k7:=s4.cell (i:=0) (v:=.slice aoO (L0 l l.length []) cO2) rfl;obtain⟨A,hA⟩:=nq (L0 l l.length []);rw[<-hA] at k7 s5';have HA:=zh hA;clear hA cT;go_wp2_with fail;exact bodyPost_ret (v:=.tuple #[.slice aoO A cO2,.bool true]) (by simp[results,Tryz.results213,go_sem]) rfl ⟨_,rfl,by rw[<-HA.out];exact s5'.mono hE0,hE0.trans s1⟩
theorem bo2(v:Value)(l:List Int)(w:World)(h:c9 w v l) :
 Calls Tryz.prog 103 #[.agg #[v]] w fun e w'=>e=.returned (.int .i64 (if auB l then (L0 l l.length []:Int) else -1))∧Ext w w':=by
 obtain⟨wb,Hwb,hE0,hb,hg,hE,Hsz⟩:=ju3 28 h;clear h;have hbx:=hb _ hE;cases hn:auB l
 . have cA:=bz6 v l wb (hg _ hE) hn;clear hn;go_in;go_wp2_with fail;rw[<-Hwb.out];go_wp2_with (go_at_call 213;refine cA.mono ?_;rintro e w3 ⟨v3,rfl,hE3⟩);go_ret;exact⟨rfl,hE0.trans hE3⟩
 . have cA:=by7 v l wb (hg _ hE) hn;have Hle:Hid (L0 l l.length []<=729):=zh (by
    have hh:j1 l=true∧ord l<=9:=(by unfold auB at hn;simpa using hn);exact nle (cr0 l _ _) (ch4 hh.2 (C6 hh.1)))
   clear hn;obtain⟨A,hA⟩:=nq (L0 l l.length []);rw[<-hA] at cA ⊢;clear hA;go_in;go_wp2_with fail;rw[<-Hwb.out];go_wp2_with (go_at_call 213;refine cA.mono ?_;rintro e w3 ⟨v3,rfl,hO3,hE3⟩;obtain⟨ao3,c3,rfl,-⟩:=hO3.shape);go_ret;exact⟨rfl,hE0.trans hE3⟩
end Go.Zz
