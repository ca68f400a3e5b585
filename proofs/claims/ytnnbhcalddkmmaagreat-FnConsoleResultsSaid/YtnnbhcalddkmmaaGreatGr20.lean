/- Slices of slices that a call makes: their length alone is told. -/
import Derived.Test.YtnnbhcalddkmmaaGreatGr9
import Derived.Test.YtnnbhcalddkmmaaGreatGr16
import Derived.Laws.OwnMore
import Derived.Test.YtnnbhcalddkmmaaGreatGr19
import Derived.Test.YtnnbhcalddkmmaaGreatGr8
import Derived.Test.YtnnbhcalddkmmaaGreatGr15
import Derived.Deep.RegionHeld3
import Derived.Laws.EntriesVeiled
import Derived.StillTailTactics
set_option linter.unusedSimpArgs false
set_option linter.unusedVariables false
set_option linter.unnecessarySimpa false
namespace Go.Zz
open Go.RowKit Go.Proofs
set_option maxHeartbeats 1000000
theorem j54:(Tryz.prog.info? 26).map (fun i=>(i.zero,i.size,i.bytes))=some (some (.slice none 0 0),1,24):=by kernel_rfl
theorem dr4:Tryz.prog.underlying 93=some (.slice 26):=by kernel_rfl
def L5(w0 w:World)(v:Value)(n:Nat):Prop :=
 ∃L:List Value,L.length=n∧(∀u∈L,u.oneCell'=true)∧w.ownsRow w0.heap.size 26 1 v n L∧n≤1000000
theorem L5.blk{w0 w:World}{v:Value}{n:Nat}(h:L5 w0 w v n):∀k,v.ownBlock=some k→w0.heap.size≤k∧k<w.heap.size:=by
 obtain⟨L,-,-,h,-⟩:=h;exact h.lt
theorem L5.ext{w0 w w':World}{v:Value}{n:Nat}(h:L5 w0 w v n)(hE:Ext w w'):L5 w0 w' v n:=by
 obtain⟨L,h1,h2,h3,h4⟩:=h;refine⟨L,h1,h2,h3.kept (row:=none) ⟨hE.os,hE.tape,hE.output,hE.size,fun k hk _=>hE.block k hk⟩ ?_,h4⟩;cases hv:v.ownBlock<;>simp
theorem L5.mono{w0 w1 w:World}{v:Value}{n:Nat}(h:L5 w1 w v n)(hE:Ext w0 w1):L5 w0 w v n:=by
 obtain⟨L,h1,h2,h3,h4⟩:=h;exact⟨L,h1,h2,X6 h3 hE.size,h4⟩
theorem L5.le{w0 w:World}{v:Value}{n:Nat}(h:L5 w0 w v n):n≤1000000:=by obtain⟨_,_,_,_,h⟩:=h;exact h
theorem ci6{w0 w:World}(hE:Ext w0 w):L5 w0 (w.alloc (.cells #[] 26)) (.slice (some ⟨w.heap.size,0,none⟩) 0 0) 0:=by
 have:=World.ownsRow_lit (base:=w0.heap.size) (e:=26) (size:=1) w #[] 0 hE.size (by unfold maxLen;omega) (by simp);exact⟨[],rfl,by simp,by simpa using this,by omega⟩
theorem L5.shape{w0 w:World}{v:Value}{n:Nat}(h:L5 w0 w v n) :
 ∃(ao:Option Addr) (c:Nat),v=.slice ao n c∧n≤c∧(∀i,i<n→∃g u,ao=some ⟨g,0,none⟩∧w.cell? ⟨g,i,none⟩=some u):=by
 obtain⟨L,hL,-,h1,-⟩:=h;have h2:=h1.2;rcases h2 with ⟨rfl,hl⟩ | ⟨g,cap,cur,rfl,hg,hh,hc,r⟩
 · exact⟨none,0,by rw[hl],by omega,by omega⟩
 · refine⟨some ⟨g,0,none⟩,cap,rfl,hc,fun i hi=>⟨g,L[i]'(by omega),rfl,?_⟩⟩;rw[World.ownsRow.cellAt h1 i (by omega)];simp[show i<L.length by omega]
theorem d22(ty:TypeId)(w0 w:World)(v:Value)(n m c:Nat)(ad:Addr)(M:List Value)(hO:L5 w0 w v n)(hM:M.length=m)(hM1:∀u∈M,u.oneCell'=true)(hnews:∀j x,M[j]?=some x→w.cell? (ad.add j)=some x)(hE:Ext w0 w)(hn:n+m≤1000000) :
 ∃v' w',(Builtin.append_ #[93,93] ty #[v,.slice (some ad) m c]).run Tryz.prog w=.ok v' w'∧L5 w0 w' v' (n+m)∧w.grownBy w' v.ownBlock∧Nw v.ownBlock w v'.ownBlock∧Ext w0 w':=by
 obtain⟨i,hi,hz,hs1,hby⟩:=info_parts j54;obtain⟨L,hL,hL1,hL2,-⟩:=hO;have hblk:=hL2.lt;have hLM:∀u∈L++M,u.oneCell'=true:=fun u hu=>by
  rw[List.mem_append] at hu
  rcases hu with hu | hu
  · exact hL1 u hu
  · exact hM1 u hu
 have h2:=hL2.2;rcases h2 with ⟨rfl,hl⟩ | ⟨g,cap,cur,rfl,hg,hh,hnc,hcm,hcs,htk⟩
 · subst hl;have hL':L=[]:=List.eq_nil_of_length_eq_zero hL;subst hL';obtain⟨v',w',hrun,r1,r2,-⟩:=run_append_own (P:=Tryz.prog) w w.heap.size 93 ty 26 i (.slice none 0 0) 1 24 dr4 hi hz hs1 hby rfl (by omega) (.slice none 0 0) 0 [] (World.ownsRow_nil _ _ _ _) ad m c M (by omega) hnews hM1 (by unfold maxLen;omega) (by omega) (Nat.le_refl _);have r1':=r1.lt;exact⟨v',w',hrun,⟨M,by omega,hM1,X6 (by simpa using r1) hE.size,by omega⟩,r2,Or.inr fun k hk=>(r1' k hk).1,hE.grown r2 fun k hk=>by simp[Value.ownBlock] at hk⟩
 · by_cases hroom:n+m≤cap
   · obtain⟨w',hrun,r1,r2⟩:=run_append_fits (P:=Tryz.prog) w w0.heap.size 93 ty 26 i 1 dr4 hi hs1 g n cap _ hL2 ad m c M (by omega) hnews hM1 hroom;exact⟨_,w',hrun,⟨L++M,by rw[List.length_append];omega,hLM,r1,by omega⟩,r2,Or.inl rfl,hE.grown r2 fun k hk=>by cases hk;exact hg⟩
   · obtain⟨v',w',hrun,r1,r2⟩:=run_append_arg_grows (P:=Tryz.prog) (w:=w) 93 ty 26 i (.slice none 0 0) 1 24 dr4 hi hz hs1 hby rfl (by omega) ⟨g,0,none⟩ n cap L (by omega) (by
      intro j u hu;have hj:j<L.length:=(List.getElem?_eq_some_iff.1 hu).1;rw[Addr.add_lit,Nat.zero_add,World.ownsRow.cellAt hL2 j (by omega)];exact hu) ad m c M (by omega) hnews (by omega) (by unfold maxLen;omega) (by omega)
     have r1':=r1.lt
     exact⟨v',w',hrun,⟨L++M,by rw[List.length_append];omega,hLM,X6 r1 hE.size,by omega⟩,⟨r2.os,r2.tape,r2.output,r2.size,fun k hk _=>r2.block k hk (by simp)⟩,Or.inr fun k hk=>(r1' k hk).1,hE.grown r2 (by simp)⟩
section
variable {ops:Array Oper} {rest:List Oper} {o:Oper} {a:Act} {Q:Exit→Act→World→Prop}
theorem c12(hg:o.guard=none)(s x:Operand)(hop:o.op=Op.call { callee:=Callee.builtin Builtin.append,args:=#[s,x],argTypes:=#[93,93] })
 (w0 W:World) (v:Value) (n:Nat) (ao:Option Addr) (k c:Nat) (hO:L5 w0 W v n) (hE:Ext w0 W) (hn:n<1000000) (hs:a.eval s=v) (hx:a.eval x=.slice (some ⟨W.heap.size,0,none⟩) 1 1)
 (hK:∀v' w',L5 w0 w' v' (n+1)→W.grownBy w' v.ownBlock→Nw v.ownBlock W v'.ownBlock→wpList Tryz.prog ops Q rest (a.put o.dst v') w') :
 wpList Tryz.prog ops Q (o :: rest) a (W.alloc (.cells #[.slice ao k c] 26)):=by
 have e:Ext W (W.alloc (.cells #[.slice ao k c] 26)):=(Ext.refl W).alloc _;obtain⟨v',w',hrun,h1,h2,h3,-⟩:=d22 o.type w0 (W.alloc (.cells #[.slice ao k c] 26)) v n 1 1 ⟨W.heap.size,0,none⟩ [.slice ao k c] (hO.ext e) rfl (by simp[Value.oneCell']) (cell_one_new _ _ _) (hE.alloc _) (by omega);refine wpList_plain hg fun K hK'=>?_;unfold Oper.wp;simp[execOp,hop,resolve,invoke,builtin,hs,hx,hrun,Result.andThen];refine hK' _ _ (hK v' w' h1 ⟨h2.os.trans e.os,h2.tape.trans e.tape,h2.output.trans e.output,Nat.le_trans e.size h2.size,fun k hk hne=>?_⟩ ?_)
 · rw[h2.block k (Nat.lt_of_lt_of_le hk e.size) hne];exact e.block k hk
 · rcases h3 with h3 | h3
   · exact Or.inl h3
   · exact Or.inr fun k hk=>Nat.le_trans e.size (h3 k hk)
end
end Go.Zz
namespace Go.Zz
open Go.RowKit Go.Proofs
set_option maxHeartbeats 4000000
set_option maxRecDepth 8000
def auB(l:List Int):Bool:=c9 l&&decide (ord l≤9)
theorem c42{n k:Nat}(hn:n≤9)(hk:k≤3):n ^ k≤729 :=
 Nat.le_trans (Nat.pow_le_pow_left hn k) (Nat.pow_le_pow_right (n:=9) (by omega) hk)
theorem dc9(l:List Int)(K:Nat):Z5 l (K+1)=Z5 l K+W5 l (P1 (ord l) K l.length):=rfl
theorem dc8{l:List Int}{I:List Nat}(h:T6 l I l.length=false):W5 l I=0:=by unfold W5;rw[h];rfl
theorem d84{l:List Int}{I:List Nat}(h:S7 l (U7 l I)=false):W5 l I=0:=by unfold W5;rw[h];simp
theorem d85{l:List Int}{I:List Nat}(h:T6 l I l.length=true)(h2:S7 l (U7 l I)=true):W5 l I=1:=by unfold W5;rw[h,h2];rfl
theorem bp4(v:Value)(l:List Int)(w:World)(h:c8 w v l)(hn:auB l=false) :
 Calls Tryz.prog 178 #[.agg #[v]] w fun e w'=>∃v',e=.returned (.tuple #[v',.bool false])∧Ext w w':=by
 obtain⟨wb,Hwb,hE0,hb,hg,hE,Hsz⟩:=j60 28 h;clear h;have cG:=fun W (hW:Ext wb W)=>q9 v l W (hg W hW);have hE1:=hE.alloc (.cells #[] 26);have hb1:=hb _ hE1;cases hgr:c9 l
 · rw[hgr] at cG;go_enter Tryz.func178,Tryz.ntmps178;go_wp2_with fail;rw[←Hwb.out];rw[Hsz.out];go_wp2_with (go_at_call 42;refine (cG _ hE1).mono ?_;rintro e w1 ⟨rfl,hE2⟩;have hb2:=hb _ (hE1.trans hE2));exact bodyPost_ret (v:=.tuple #[.slice (some ⟨wb.heap.size,0,none⟩) 0 0,.bool false]) (by simp[results,Tryz.results178,go_sem]) rfl ⟨_,rfl,hE0.trans (hE1.trans hE2)⟩
 · rw[hgr] at cG;have Hgr:=Lib.hid hgr;have h9:¬(ord l≤9):=by
    intro h9;unfold auB at hn;rw[hgr,decide_eq_true h9] at hn;cases hn
   have h9I:(9:Int)<(ord l:Int):=(by omega);have cO:=fun W (hW:Ext wb W)=>m4 v l W (hg W hW) Hgr;clear hgr hn;go_enter Tryz.func178,Tryz.ntmps178;go_wp2_with fail;rw[←Hwb.out];rw[Hsz.out];go_wp2_with (first | (go_at_call 42;refine (cG _ hE1).mono ?_;rintro e w1 ⟨rfl,hE2⟩;have hE12:=hE1.trans hE2;have hb2:=hb _ hE12) | (go_at_call 43;refine (cO _ hE12).mono ?_;rintro e w3 ⟨rfl,hE3⟩));exact bodyPost_ret (v:=.tuple #[.slice (some ⟨wb.heap.size,0,none⟩) 0 0,.bool false]) (by simp[results,Tryz.results178,go_sem]) rfl ⟨_,rfl,hE0.trans (hE12.trans hE3)⟩
theorem bn2(v:Value)(l:List Int)(w:World)(h:c8 w v l)(hn:auB l=true) :
 Calls Tryz.prog 178 #[.agg #[v]] w fun e w'=>∃v',e=.returned (.tuple #[v',.bool true])∧L5 w w' v' (Z5 l (ord l ^ l.length))∧Ext w w':=by
 have hop:=h.op;obtain⟨wb,Hwb,hE0,hb,hg,hE,Hsz⟩:=j60 28 h;clear h;obtain⟨ao,c,adr,rfl,hlen,hadr,hcell⟩:=hop;have hix:=j6 (c:=c) elI szI hadr;clear hadr;obtain⟨hgr,h9⟩:c9 l=true∧ord l≤9:=by unfold auB at hn;simpa using hn
 have Hgr:=Lib.hid hgr;have cG:=fun W (hW:Ext wb W)=>q9 _ l W (hg W hW);rw[hgr] at cG;clear hgr hn;have cO:=fun W (hW:Ext wb W)=>m4 _ l W (hg W hW) Hgr;have hl3:=C0 Hgr.out;have hob:=l8 Hgr.out;have h9I:¬(9:Int)<(ord l:Int):=by omega
 have hE1:=hE.alloc (.cells #[] 26);have hO0:L5 wb (wb.alloc (.cells #[] 26)) (.slice (some ⟨wb.heap.size,0,none⟩) 0 0) 0:=ci6 hE;obtain⟨wc,hwc⟩:∃wc,wc=wb.alloc (.cells #[] 26):=⟨_,rfl⟩;rw[←hwc] at hE1 hO0;have hb1:=hb _ hE1;have Hwc:=Lib.hid hwc;clear hwc;go_enter Tryz.func178,Tryz.ntmps178;go_wp2_with fail;rw[←Hwb.out];rw[Hsz.out];rw[←Hwc.out];go_wp2_with (first | (go_at_call 42;refine (cG _ hE1).mono ?_;rintro e w1 ⟨rfl,hE2⟩;have hE12:=hE1.trans hE2;have hb2:=hb _ hE12) | (go_at_call 43;refine (cO _ hE12).mono ?_;rintro e w3 ⟨rfl,hE3⟩;replace hE12:=hE12.trans hE3;replace hE2:=hE2.trans hE3;have hb3:=hb _ hE12));have hOv:=hO0.ext hE2;clear hO0 hE2 hE1 hb1 hb2 hE hE3;have hE:=hE12;clear hE12;try clear hb3
 go_loopw [6,7] (fun sc si wr=>∃k:Nat,k≤l.length∧si=.int .i64 k∧sc=.int .i64 (ord l ^ k:Nat)∧L5 wb wr (.slice (some ⟨wb.heap.size,0,none⟩) 0 0) 0∧Ext wb wr) (fun _ si _=>l.length - (intOf si).toNat);case atStart=>exact⟨0,by omega,rfl,rfl,hOv,hE⟩
 case round =>
  clear hE hOv;obtain⟨k,hk,rfl,rfl,hOv,hE⟩:=hrel;have hbx:=hb _ hE;by_cases hlt:k<l.length
  · have hltI:(k:Int)<(l.length:Int):=(by omega);have hp:=c42 h9 (show k≤3 by omega);have hp2:=c42 h9 (show k+1≤3 by omega);have Hs:Hid (((ord l ^ (k+1):Nat):Int)=((ord l ^ k:Nat):Int)*(ord l:Int)):=Lib.hid (by rw[Nat.pow_succ,Int.natCast_mul]);have hm:0≤((ord l ^ k:Nat):Int)*(ord l:Int)∧((ord l ^ k:Nat):Int)*(ord l:Int)≤729:=by
     rw[←Hs.out];omega
    clear hp2;obtain⟨M,hM⟩:∃M:Nat,M=ord l ^ k:=⟨_,rfl⟩;rw[←hM] at hp Hs hm ⊢;clear hM;go_wp2_with fail;go_roundw;(case rel=>exact⟨k+1,by omega,by go_num,by rw[Hs.out],hOv,hE⟩);case measure=>(simp[intOf];omega)
  · have hltI:¬(k:Int)<(l.length:Int):=(by omega);have hkl:k=l.length:=(by omega);have hC:=c42 h9 (show k≤3 by omega);have HC:Hid (ord l ^ l.length=ord l ^ k):=Lib.hid (by rw[hkl]);obtain⟨C,hCd⟩:∃C,C=ord l ^ k:=⟨_,rfl⟩;rw[←hCd] at HC hC ⊢;have HKL:=Lib.hid hkl;clear hCd hkl;go_wp2_with fail;go_loopw [4,8] (fun sv sc wr=>∃q:Nat,q≤C∧sc=.int .i64 q∧L5 wb wr sv (Z5 l q)∧Ext wb wr) (fun _ sc _=>C - (intOf sc).toNat);(case atStart=>exact⟨0,by omega,rfl,hOv,hE⟩);case round =>
     clear hE hOv hbx;obtain⟨q,hq,rfl,hOv,hE⟩:=hrel;have hle:=cb0 l q;have Hsn:=Lib.hid (dc9 l q);obtain⟨A,hA⟩:∃A,A=Z5 l q:=⟨_,rfl⟩;rw[←hA] at hOv hle Hsn;by_cases hqt:q<C
     · have hqtI:(q:Int)<(C:Int):=(by omega);clear hA;obtain⟨wd,hwd⟩:∃wd,wd=wr.alloc (.cells #[] 3):=⟨_,rfl⟩;have hOd:Own 3 wr wd (.slice (some ⟨wr.heap.size,0,none⟩) 0 0) []:=(by rw[hwd];exact q5 (by omega) (Ext.refl wr) [] rfl);have hEd:Ext wr wd:=(by rw[hwd];exact (Ext.refl wr).alloc _);have Hwd:=Lib.hid hwd;clear hwd;have hOo:=hOv.ext hEd;go_wp2_with fail;rw[←Hwd.out];go_loopw [9,10,11] (fun sm sx si wq=>∃i:Nat,i≤l.length∧si=.int .i64 i∧sx=.int .i64 (ba4 (ord l) q i:Nat)∧Own 3 wr wq sm (d6 (P1 (ord l) q i))∧Ext wr wq) (fun _ _ si _=>l.length - (intOf si).toNat);(case atStart=>exact⟨0,by omega,rfl,rfl,hOd,hEd⟩);case round =>
        clear hEd hOd hOo;obtain⟨i,hi,rfl,rfl,hOm,hEm⟩:=hrel;have hbm:=hb _ (hE.trans hEm);have hqle:=du0 (ord l) q i;have Hd1:Hid (P1 (ord l) q (i+1)=(ba4 (ord l) q i % ord l) :: P1 (ord l) q i):=Lib.hid rfl;have Hd2:Hid (ba4 (ord l) q (i+1)=ba4 (ord l) q i / ord l):=Lib.hid rfl;have hUl:=c25 (ord l) q i;by_cases hit:i<l.length
        · have hitI:(i:Int)<(l.length:Int):=(by omega);have hUc:(d6 (P1 (ord l) q i)).length≤3:=(by rw[j8];omega);obtain⟨U,hU⟩:∃U,U=P1 (ord l) q i:=⟨_,rfl⟩;obtain⟨x,hx⟩:∃x,x=ba4 (ord l) q i:=⟨_,rfl⟩;rw[←hU] at hOm Hd1 hUc;rw[←hx] at hqle Hd1 Hd2 ⊢;clear hU hx hUl;have hne2:(((ord l:Nat):Int) == 0)=false:=(by simp;omega);have D:Hid (((x / ord l:Nat):Int)=(x:Int) / ((ord l:Nat):Int)):=Lib.hid (Int.natCast_ediv x (ord l));have Mo:Hid (((x % ord l:Nat):Int)=(x:Int) % ((ord l:Nat):Int)):=Lib.hid (Int.natCast_emod x (ord l));have m1:x % ord l<16777216:=(by have:=Nat.mod_le x (ord l);omega);have m2:x / ord l<16777216:=(by have:=Nat.div_le_self x (ord l);omega);have hmb:(0:Int)≤(x:Int) % ((ord l:Nat):Int)∧(x:Int) % ((ord l:Nat):Int)<16777216:=(by rw[←Mo.out];exact⟨Int.natCast_nonneg _,Int.ofNat_lt.2 m1⟩);have hdb:(0:Int)≤(x:Int) / ((ord l:Nat):Int)∧(x:Int) / ((ord l:Nat):Int)<16777216:=(by rw[←D.out];exact⟨Int.natCast_nonneg _,Int.ofNat_lt.2 m2⟩);clear m1 m2;rename World=>wm;have hEm1:=hEm.alloc (.cells #[.int .i64 ((x:Int) % ((ord l:Nat):Int))] 3);have hO1:Own 3 wr (wm.alloc (.cells #[.int .i64 ((x:Int) % ((ord l:Nat):Int))] 3)) (.slice (some ⟨wm.heap.size,0,none⟩) 1 1) [(x:Int) % ((ord l:Nat):Int)]:=q5 (by omega) hEm _ rfl;have hI1:=(hOm.ext ((Ext.refl wm).alloc (.cells #[.int .i64 ((x:Int) % ((ord l:Nat):Int))] 3))).ints;go_wp2_with (at_builtin;refine b85 slI rfl _ _ rfl wr _ _ _ _ _ hO1 hI1 hEm1 (by simp;omega) rfl rfl ?_;intro v1 w2 hO2 hE2);go_roundw;(case rel=>exact⟨i+1,by omega,by go_num,by rw[Hd2.out,D.out],by rw[Hd1.out];show Own _ _ _ _ (((x % ord l:Nat):Int) :: d6 U);rw[Mo.out];exact hO2,hE2⟩);case measure=>(simp[intOf];omega)
        · have hitI:¬(i:Int)<(l.length:Int):=(by omega);have hil:i=l.length:=(by omega);rw[hil] at hOm hUl;have HIo:=Lib.hid (cb3 (n:=ord l) (by omega) q l.length);clear Hd1 Hd2 hqle hil hi hit;obtain⟨I,hI⟩:∃I,I=P1 (ord l) q l.length:=⟨_,rfl⟩;rw[←hI] at hOm hUl HIo Hsn;have Hil:=Lib.hid hUl;clear hI hUl;have HFe:=Lib.hid (cr4 l I);have HFl:=Lib.hid (d50 Hgr.out I);have HAo:=Lib.hid (fun h=>dc8 (l:=l) (I:=I) h);have HAn:=Lib.hid (fun h=>d84 (l:=l) (I:=I) h);have HAy:=Lib.hid (fun h h2=>d85 (l:=l) (I:=I) h h2);rename World=>wm;obtain⟨aoI,cI,adrI,rfl,hadrI,hcellI⟩:=hOm.ints.nats;have hixI:=j6 (c:=cI) elI szI hadrI;have HIo2:=Lib.hid (fun j (hj:j<I.length)=>HIo.out _ (o6 hj));clear hadrI HIo;have hEs:=Ext.refl wm;have hE2:=hE.trans hEm;have hOv2:=hOv.ext hEm;clear hOv hE hEm;go_wp2_with fail;clear hitI;go_loopw [12,13] (fun sf si wq=>∃i:Nat,i≤l.length∧si=.int .i64 i∧sf=.bool (T6 l I i)∧Ext wm wq) (fun _ si _=>l.length - (intOf si).toNat);(case atStart=>exact⟨0,by omega,rfl,rfl,hEs⟩);case round =>
           clear hEs hbm;obtain⟨i,hi,rfl,rfl,hEs⟩:=hrel;have Hn:Hid (T6 l I (i+1)=(T6 l I i&&decide (L9 l (d5 I i) (nth l i).toNat=0))):=Lib.hid rfl;by_cases hit:i<I.length
           · have hitI:(i:Int)<(I.length:Int):=(by omega);have hil:i<l.length:=(by have:=Hil.out;omega);have ho2:=E2 Hgr.out hil;obtain⟨o,ho⟩:∃o:Nat,nth l i=(o:Int):=⟨(nth l i).toNat,by omega⟩;rw[ho,Int.toNat_natCast] at Hn;rw[ho] at ho2;have kI:=fun U=>hcellI i _ hit (hEs.trans (b9 wr U));have kb:=fun U=>hb _ (hE2.trans (hEs.trans (b9 wr U)));have kG:=fun U=>hcell i _ hil (hE0.trans (hE2.trans (hEs.trans (b9 wr U))));simp only[ho] at kG;have hIi:=HIo2.out i hit;have hM:=bj0 Hgr.out (d5 I i) o;have m1:=fun U=>bk2 _ l (d5 I i) o _ (hg _ (hE2.trans (hEs.trans (b9 wr U)))) Hgr (cc1 Hgr.out hIi) (by omega) (by omega);have hzq:(((L9 l (d5 I i) o:Nat):Int) == 0)=decide (L9 l (d5 I i) o=0):=by
              rw[Bool.eq_iff_iff,beq_iff_eq,decide_eq_true_iff];omega
             obtain⟨M,hMd⟩:∃M,M=L9 l (d5 I i) o:=⟨_,rfl⟩;rw[←hMd] at Hn hM hzq;simp only[←hMd] at m1;clear hMd ho;obtain⟨d,hd⟩:∃d,d=decide (M=0):=⟨_,rfl⟩;rw[←hd] at Hn hzq;clear hd;have hEb:=hEs;clear hEs;have hE:=Ext.refl wr;cases hf:T6 l I i
             · have Hn2:Hid (T6 l I (i+1)=false):=Lib.hid (by rw[Hn.out,hf];rfl);clear hf Hn;go_wp2_with fail;(refine d0 (wr) (by kernel_rfl) (by kernel_rfl) hE ?_);(repeat (go_big_quiet_step (first | (go_at_call 279;with_reducible exact Calls.lat (m1 _)))));(refine wpQuiet_nil ?_);(intro W hE');(replace hE:=l7 hE');(clear hE');go_wp2_with fail;go_roundw;(case rel=>exact⟨i+1,by omega,by go_num,by rw[Hn2.out],hEb.trans hE⟩);case measure=>(simp[intOf];omega)
             · have Hn2:Hid (T6 l I (i+1)=d):=Lib.hid (by rw[Hn.out,hf];rfl);clear hf Hn;go_wp2_with fail;(refine d0 (wr) (by kernel_rfl) (by kernel_rfl) hE ?_);(repeat (go_big_quiet_step (first | (go_at_call 279;with_reducible exact Calls.lat (m1 _)))));(refine wpQuiet_nil ?_);(intro W hE');(replace hE:=l7 hE');(clear hE');go_wp2_with fail;go_roundw;(case rel=>exact⟨i+1,by omega,by go_num,by rw[Hn2.out],hEb.trans hE⟩);case measure=>(simp[intOf];omega)
           · have hitI:¬(i:Int)<(I.length:Int):=(by omega);have hil:i=l.length:=(by have:=Hil.out;omega);have hE3:=hE2.trans hEs;have hO3:=hOv2.ext hEs;have hI3:=hOm.ints.ext hEs;have hb3:=hb _ hE3;clear Hn hE2 hOv2 hOm hi hit;cases hf:T6 l I i
             · have Hs2:Hid (Z5 l (q+1)=A):=Lib.hid (by rw[Hsn.out,HAo.out (by rw[←hil];exact hf)];omega);clear hil hf;go_wp2_with fail;go_roundw;(case rel=>exact⟨q+1,by omega,by go_num,by rw[Hs2.out];exact hO3,hE3⟩);case measure=>(simp[intOf];omega)
             · have Hf:Hid (T6 l I l.length=true):=Lib.hid (by rw[←hil];exact hf);have cX:=d25 _ l _ I wr (hg _ hE3) hI3 Hgr Hil.out (fun y hy=>by obtain⟨j,hj,rfl⟩:=List.getElem_of_mem hy;have:=HIo2.out j hj;simpa[d5,List.getD,hj] using this);obtain⟨F,hF⟩:∃F,F=U7 l I:=⟨_,rfl⟩;rw[←hF] at cX HFe HFl;have HF:=Lib.hid hF;clear hil hF;have cA:=fun W vf (hW:Ext wr W) (hf:c8 W vf (d6 F))=>bn3 _ l vf F W (hg _ (hE3.trans hW)) hf Hgr HFe.out HFl.out;cases ha:S7 l F
               · have Hs2:Hid (Z5 l (q+1)=A):=Lib.hid (by rw[Hsn.out,HAn.out (by rw[←HF.out];exact ha)];omega);rw[ha] at cA;clear ha hf;go_wp2_with (first | (go_at_call 280;refine cX.mono ?_;rintro e w4 ⟨vf,rfl,hO4,hE4⟩;have hb4:=hb _ (hE3.trans hE4);have hI4:=hO4.ints) | (go_at_call 281;refine (cA _ _ hE4 hI4).mono ?_;rintro e w5 ⟨rfl,hE5⟩));go_roundw;(case rel=>exact⟨q+1,by omega,by go_num,by rw[Hs2.out];exact hO3.ext (hE4.trans hE5),hE3.trans (hE4.trans hE5)⟩);case measure=>(simp[intOf];omega)
               · have Hs2:Hid (Z5 l (q+1)=A+1):=Lib.hid (by rw[Hsn.out,HAy.out Hf.out (by rw[←HF.out];exact ha)]);rw[ha] at cA;clear ha hf;go_wp2_with (first | (go_at_call 280;refine cX.mono ?_;rintro e w4 ⟨vf,rfl,hO4,hE4⟩;have hb4:=hb _ (hE3.trans hE4);have hI4:=hO4.ints;obtain⟨aoF,cF,rfl,-⟩:=hO4.shape) | (go_at_call 281;refine (cA _ _ hE4 hI4).mono ?_;rintro e w5 ⟨rfl,hE5⟩;have hO5:=hO3.ext (hE4.trans hE5);have hE35:=hE3.trans (hE4.trans hE5)) | (at_builtin;refine c12 rfl _ _ rfl wb _ _ A _ _ _ hO5 hE35 (by omega) rfl rfl ?_;intro v6 w6 hO6 hG6 hN6;have hE6:=hE35.grown hG6 (fun k hk=>(hO5.blk k hk).1)));go_roundw;(case rel=>exact⟨q+1,by omega,by go_num,by rw[Hs2.out];exact hO6,hE6⟩);case measure=>(simp[intOf];omega)
     · have hqtI:¬(q:Int)<(C:Int):=(by omega);have hqC:q=C:=(by omega);rw[hqC] at hA;have HA:=Lib.hid hA;clear hA hqC;have hbr:=hb _ hE;obtain⟨ao2,c2,rfl,-⟩:=hOv.shape;go_wp2_with fail;exact bodyPost_ret (v:=.tuple #[.slice ao2 A c2,.bool true]) (by simp[results,Tryz.results178,go_sem]) rfl ⟨_,rfl,by rw[HC.out,←HA.out];exact hOv.mono hE0,hE0.trans hE⟩
theorem bc8(v:Value)(l:List Int)(w:World)(h:c8 w v l) :
 Calls Tryz.prog 58 #[.agg #[v]] w fun e w'=>e=.returned (.int .i64 (if auB l then (Z5 l (ord l ^ l.length):Int) else -1))∧Ext w w':=by
 obtain⟨wb,Hwb,hE0,hb,hg,hE,Hsz⟩:=j60 28 h;clear h;have hbx:=hb _ hE;cases hn:auB l
 · have cA:=bp4 v l wb (hg _ hE) hn;clear hn;go_enter Tryz.func58,Tryz.ntmps58;go_wp2_with fail;rw[←Hwb.out];go_wp2_with (go_at_call 178;refine cA.mono ?_;rintro e w3 ⟨v3,rfl,hE3⟩);go_ret;exact⟨rfl,hE0.trans hE3⟩
 · have cA:=bn2 v l wb (hg _ hE) hn;have Hle:Hid (Z5 l (ord l ^ l.length)≤729):=Lib.hid (by
    have hh:c9 l=true∧ord l≤9:=(by unfold auB at hn;simpa using hn);exact Nat.le_trans (cb0 l _) (c42 hh.2 (C0 hh.1)))
   clear hn;obtain⟨A,hA⟩:∃A,A=Z5 l (ord l ^ l.length):=⟨_,rfl⟩;rw[←hA] at cA ⊢;clear hA;go_enter Tryz.func58,Tryz.ntmps58;go_wp2_with fail;rw[←Hwb.out];go_wp2_with (go_at_call 178;refine cA.mono ?_;rintro e w3 ⟨v3,rfl,hO3,hE3⟩;obtain⟨ao3,c3,rfl,-⟩:=hO3.shape);go_ret;exact⟨rfl,hE0.trans hE3⟩
end Go.Zz
namespace Go.Zz
end Go.Zz
namespace Go.Zz
open Go.RowKit Go.Proofs
set_option maxHeartbeats 1000000
set_option maxRecDepth 8000
end Go.Zz
namespace Go.Zz
open Go.RowKit Go.Proofs
set_option maxHeartbeats 2000000
set_option maxRecDepth 8000
def Q7(bR m:Nat)(X:List Nat)(w:World):Prop:=∃Z:List Int,Z.length=m∧Z.take X.length=d6 X∧Blk w bR 3 (Z.map (Value.int .i64)).toArray
theorem Q7.ext{bR m:Nat}{X:List Nat}{w w':World}(h:Q7 bR m X w)(hE:Ext w w'):Q7 bR m X w':=by
 obtain⟨Z,h1,h2,h3⟩:=h;exact⟨Z,h1,h2,h3.ext hE⟩
theorem Q7.free{bR m:Nat}{X:List Nat}{w:World}(h:Q7 bR m X w)(i:Nat):w.frozen? ⟨bR,i,none⟩=false:=by
 obtain⟨Z,h1,h2,h3⟩:=h;exact h3.free i
theorem Q7.has{bR m:Nat}{X:List Nat}{w:World}(h:Q7 bR m X w){i:Nat}(hi:i<m):∃v,w.cell? ⟨bR,i,none⟩=some v:=by
 obtain⟨Z,h1,h2,h3⟩:=h;exact⟨.int .i64 (nth Z i),h3.cell (i:=i) (by simp[nth,List.getD,show i<Z.length by omega])⟩
theorem Q7.set{bR m:Nat}{X:List Nat}{w:World}(h:Q7 bR m X w)(hX:X.length<m)(y:Nat):Q7 bR m (X++[y]) (w.setCell ⟨bR,X.length,none⟩ (.int .i64 (y:Int))):=by
 obtain⟨Z,h1,h2,h3⟩:=h;refine⟨Z.set X.length (y:Int),by simpa using h1,?_,?_⟩
 · rw[List.length_append,List.length_singleton,J3,←h2,List.take_succ_eq_append_getElem (by simp;omega)];simp[List.take_set_of_le]
 · have:=h3.set X.length (.int .i64 (y:Int));simpa[List.map_set] using this
theorem Q7.back{bR m:Nat}{X:List Nat}{w:World}{y:Nat}(h:Q7 bR m (X++[y]) w):Q7 bR m X w:=by
 obtain⟨Z,h1,h2,h3⟩:=h;refine⟨Z,h1,?_,h3⟩;have:=congrArg (List.take X.length) h2;rw[List.take_take,J3] at this;simp at this;rw[this];have e:(d6 X).length=X.length:=j8 X;rw[←e];simp
theorem Q7.ints{bR m:Nat}{X:List Nat}{w:World}(h:Q7 bR m X w)(hX:X.length=m)(hm:m≤1000):c8 w (.slice (some ⟨bR,0,none⟩) m m) (d6 X):=by
 obtain⟨Z,h1,h2,h3⟩:=h;have hZ:Z=d6 X:=by rw[←h2,List.take_of_length_le (by omega)]
 subst hZ;refine⟨_,m,by rw[h1],by omega,by omega,fun i hi=>⟨_,rfl,?_⟩⟩;rw[Addr.add_lit,Nat.zero_add];exact h3.cell (i:=i) (by simp[nth,List.getD,hi])
end Go.Zz
