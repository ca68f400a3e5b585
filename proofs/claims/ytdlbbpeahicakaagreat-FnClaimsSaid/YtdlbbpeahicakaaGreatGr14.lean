/- FindFreimanIso of the program. -/
import Derived.Test.YtdlbbpeahicakaaGreatGr13
import Derived.Test.YtdlbbpeahicakaaGreatGr12
import Derived.Laws.EntriesVeiled
import Derived.Test.YtdlbbpeahicakaaGreatGr2
import Derived.Test.YtdlbbpeahicakaaGreatGr3
import Derived.Test.YtdlbbpeahicakaaGreatGr5
import Derived.Test.YtdlbbpeahicakaaGreatGr4
namespace Go.Zz
open Go.RowKit Go.Proofs
set_option maxHeartbeats 1000000
set_option maxRecDepth 8000
theorem FindFreimanIso_any(v u:Value)(g h:List Int)(a b:Int)(w:World)(hv:Ints w v g)(hu:Ints w u h) :
 Calls Tryz.prog 105 #[.agg #[v],.agg #[u],.int .i64 a,.int .i64 b] w fun e w'=>∃v',e=.returned (.tuple #[v',.bool (ffB g h a b)])∧Own 3 w w' v' (castL (ffL g h a b))∧Ext w w':=by
 obtain⟨wb,hwb⟩:∃wb,wb=(w.alloc (.cells #[v] 27)).alloc (.cells #[u] 27):=⟨_,rfl⟩
 have hE0:Ext w wb:=by rw[hwb];exact ((Ext.refl _).alloc _).alloc _
 have B0:Blk wb w.heap.size 27 #[v]:=by rw[hwb];exact (Blk.new _ _ _).alloc _
 have B1:Blk wb (w.heap.size+1) 27 #[u]:=by rw[hwb];simpa using Blk.new (w.alloc (.cells #[v] 27)) 27 #[u]
 have b0:∀W,Ext wb W→W.cell? ⟨w.heap.size,0,none⟩=some v:=fun W hW=>(B0.ext hW).cell (i:=0) rfl
 have b1:∀W,Ext wb W→W.cell? ⟨w.heap.size+1,0,none⟩=some u:=fun W hW=>(B1.ext hW).cell (i:=0) rfl
 have HV:=Lib.hid (fun W (hW:Ext wb W)=>hv.ext (hE0.trans hW))
 have HU:=Lib.hid (fun W (hW:Ext wb W)=>hu.ext (hE0.trans hW))
 have hE:=Ext.refl wb
 have Hwb:=Lib.hid hwb
 clear hv hu hwb B0 B1
 have cA:=fun W (hW:Ext wb W)=>IsSet_any v g a W (HV.out W hW)
 have cB:=fun W (hW:Ext wb W)=>IsSet_any u h b W (HU.out W hW)
 cases hA:isSetB g a
 · have H1:=Lib.hid (ff_no (ffR_not (g:=g) (h:=h) (a:=a) (b:=b) (by unfold ffC;rw[hA];rfl)))
   rw[hA] at cA
   clear hA cB
   go_enter Tryz.func105,Tryz.ntmps105
   go_wp2_with fail
   rw[←Hwb.out]
   refine (cA _ hE).mono ?_
   rintro e w1 ⟨rfl,hE1⟩
   go_wp2_with fail
   rw[H1.out.1,H1.out.2]
   exact bodyPost_ret (v:=.tuple #[.slice (some ⟨(w1).heap.size,0,none⟩) 0 0,.bool false]) (by simp[results,Tryz.results105,go_sem]) rfl ⟨_,rfl,own_made (TI:=3) (n:=0) (by omega) (hE0.trans hE1) (castL []) rfl,Ext.alloc (hE0.trans hE1) _⟩
 cases hB:isSetB h b
 · have H1:=Lib.hid (ff_no (ffR_not (g:=g) (h:=h) (a:=a) (b:=b) (by unfold ffC;rw[hB];simp)))
   rw[hA] at cA
   rw[hB] at cB
   clear hA hB
   go_enter Tryz.func105,Tryz.ntmps105
   go_wp2_with fail
   rw[←Hwb.out]
   refine (cA _ hE).mono ?_
   rintro e w1 ⟨rfl,hE1⟩
   go_wp2_with fail
   refine (cB _ hE1).mono ?_
   rintro e w2 ⟨rfl,hE2⟩
   have hE2b:=hE1.trans hE2
   go_wp2_with fail
   rw[H1.out.1,H1.out.2]
   exact bodyPost_ret (v:=.tuple #[.slice (some ⟨(w2).heap.size,0,none⟩) 0 0,.bool false]) (by simp[results,Tryz.results105,go_sem]) rfl ⟨_,rfl,own_made (TI:=3) (n:=0) (by omega) (hE0.trans hE2b) (castL []) rfl,Ext.alloc (hE0.trans hE2b) _⟩
 obtain⟨A,rfl,hA2,hA24,hgg⟩:=isSetB_nat hA
 obtain⟨B,rfl,hB2,hB24,hgh⟩:=isSetB_nat hB
 have HC:Hid (ffC g h A B=(decide (cnt A=cnt B)&&decide (1≤cnt A∧cnt A≤5))):=Lib.hid (by unfold ffC;rw[hA,hB];rfl)
 rw[hA] at cA
 rw[hB] at cB
 clear hA hB
 have cX:=fun W=>bits_any A hA24 W
 have cY:=fun W=>bits_any B hB24 W
 by_cases hc:¬cnt A=cnt B
 · have hcb:((cnt A:Int) != (cnt B:Int))=true:=by rw[bne_iff_ne];omega
   have H1:=Lib.hid (ff_no (ffR_not (g:=g) (h:=h) (a:=A) (b:=B) (by rw[HC.out,decide_eq_false hc];rfl)))
   clear hc
   go_enter Tryz.func105,Tryz.ntmps105
   go_wp2_with fail
   rw[←Hwb.out]
   refine (cA _ hE).mono ?_
   rintro e w1 ⟨rfl,hE1⟩
   go_wp2_with fail
   refine (cB _ hE1).mono ?_
   rintro e w2 ⟨rfl,hE2⟩
   have hE2b:=hE1.trans hE2
   go_wp2_with fail
   refine (cX _).mono ?_
   rintro e w3 ⟨rfl,rfl⟩
   go_wp2_with fail
   refine (cY _).mono ?_
   rintro e w3 ⟨rfl,rfl⟩
   go_wp2_with fail
   rw[H1.out.1,H1.out.2]
   exact bodyPost_ret (v:=.tuple #[.slice (some ⟨(w2).heap.size,0,none⟩) 0 0,.bool false]) (by simp[results,Tryz.results105,go_sem]) rfl ⟨_,rfl,own_made (TI:=3) (n:=0) (by omega) (hE0.trans hE2b) (castL []) rfl,Ext.alloc (hE0.trans hE2b) _⟩
 have hc':cnt A=cnt B:=Classical.not_not.1 hc
 have hcb:((cnt A:Int) != (cnt B:Int))=false:=by rw[hc'];simp
 have Hc:=Lib.hid hc'
 clear hc hc'
 have cN:=fun W=>within_any ((cnt A:Nat):Int) 1 5 W
 have hin:inB ((cnt A:Nat):Int) 1 5=decide (1≤cnt A∧cnt A≤5):=by
  rw[Bool.eq_iff_iff,inB_t,decide_eq_true_iff];omega
 rw[hin] at cN
 clear hin
 by_cases h15:¬(1≤cnt A∧cnt A≤5)
 · have H1:=Lib.hid (ff_no (ffR_not (g:=g) (h:=h) (a:=A) (b:=B) (by rw[HC.out,decide_eq_false h15];simp)))
   rw[decide_eq_false h15] at cN
   clear h15
   go_enter Tryz.func105,Tryz.ntmps105
   go_wp2_with fail
   rw[←Hwb.out]
   refine (cA _ hE).mono ?_
   rintro e w1 ⟨rfl,hE1⟩
   go_wp2_with fail
   refine (cB _ hE1).mono ?_
   rintro e w2 ⟨rfl,hE2⟩
   have hE2b:=hE1.trans hE2
   go_wp2_with fail
   refine (cX _).mono ?_
   rintro e w3 ⟨rfl,rfl⟩
   go_wp2_with fail
   refine (cY _).mono ?_
   rintro e w3 ⟨rfl,rfl⟩
   go_wp2_with fail
   refine (cX _).mono ?_
   rintro e w3 ⟨rfl,rfl⟩
   go_wp2_with fail
   refine (cN _).mono ?_
   rintro e w3 ⟨rfl,rfl⟩
   go_wp2_with fail
   rw[H1.out.1,H1.out.2]
   exact bodyPost_ret (v:=.tuple #[.slice (some ⟨(w2).heap.size,0,none⟩) 0 0,.bool false]) (by simp[results,Tryz.results105,go_sem]) rfl ⟨_,rfl,own_made (TI:=3) (n:=0) (by omega) (hE0.trans hE2b) (castL []) rfl,Ext.alloc (hE0.trans hE2b) _⟩
 have h15':=Classical.not_not.1 h15
 clear h15
 have hel:(elems A).length=cnt A:=rfl
 have hla:∀y∈elems A,y<24:=fun y hy=>elems_lt hy
 have hlb:∀y∈elems B,y<ord h:=fun y hy=>bit_lt hB2 (mem_elems.1 hy).2
 have HR:Hid (ffR g h A B=fiI g h (elems A) (elems B) (cnt A+1) []):=Lib.hid (by
  have hC:ffC g h (A:Int) (B:Int)=true:=by rw[HC.out,decide_eq_true Hc.out,decide_eq_true h15'];rfl
  unfold ffR;rw[hC];simp)
 rw[decide_eq_true h15'] at cN
 have Hgg:=Lib.hid hgg
 have Hgh:=Lib.hid hgh
 have hmf:∀(fn:Fn) (first cap:Array Value) (w:World),(Instr.makeFunc fn first cap).run Tryz.prog w=.ok (.func fn first cap) w:=fun _ _ _ _=>rfl
 have Hcp:Hid ((elems A).length≤5):=Lib.hid (by rw[hel];omega)
 clear h15' hel hgg hgh hA2 hB2
 go_enter Tryz.func105,Tryz.ntmps105
 go_wp2_with fail
 rw[←Hwb.out]
 refine (cA _ hE).mono ?_
 rintro e w1 ⟨rfl,hE1⟩
 go_wp2_with fail
 refine (cB _ hE1).mono ?_
 rintro e w2 ⟨rfl,hE2⟩
 have hE2b:=hE1.trans hE2
 go_wp2_with fail
 refine (cX _).mono ?_
 rintro e w3 ⟨rfl,rfl⟩
 go_wp2_with fail
 refine (cY _).mono ?_
 rintro e w3 ⟨rfl,rfl⟩
 go_wp2_with fail
 refine (cX _).mono ?_
 rintro e w3 ⟨rfl,rfl⟩
 go_wp2_with fail
 refine (cN _).mono ?_
 rintro e w3 ⟨rfl,rfl⟩
 clear cA cB cX cY cN
 go_wp2_with fail
 refine (members_any A hA24 _).mono ?_
 rintro e w4 ⟨vL,rfl,hOL,hE4⟩
 go_wp2_with fail
 refine (members_any B hB24 _).mono ?_
 rintro e w5 ⟨vE,rfl,hOE,hE5⟩
 obtain⟨aoL,cL,rfl,-⟩:=hOL.shape
 obtain⟨aoE,cE,rfl,-⟩:=hOE.shape
 rw[castL_len] at hOL
 rw[castL_len] at hOE
 rw[castL_len,castL_len]
 have HOL:=Lib.hid (hOL.ext hE5)
 have HOE:=Lib.hid hOE
 clear hOL hOE
 go_wp2_with fail
 obtain⟨x1,h1⟩:∃x,x=w5.alloc (.cells #[.slice aoL (elems A).length cL] 22):=⟨_,rfl⟩
 obtain⟨x2,h2⟩:∃x,x=x1.alloc (.cells #[.slice aoE (elems B).length cE] 22):=⟨_,rfl⟩
 obtain⟨x3,h3⟩:∃x,x=x2.alloc (.cells #[] 3):=⟨_,rfl⟩
 obtain⟨x4,h4⟩:∃x,x=x3.alloc (.cells #[.slice (some ⟨w5.heap.size+1+1,0,none⟩) 0 0] 22):=⟨_,rfl⟩
 obtain⟨x5,h5⟩:∃x,x=x4.alloc (.cells #[.int .i64 0] 3):=⟨_,rfl⟩
 obtain⟨x6,h6⟩:∃x,x=x5.alloc (.cells #[.func (.func 179) #[] #[.pointer (some ⟨w5.heap.size+1+1+1,0,none⟩),.pointer (some ⟨w5.heap.size,0,none⟩),.pointer (some ⟨w.heap.size,0,none⟩),.pointer (some ⟨w.heap.size+1,0,none⟩),.pointer (some ⟨w5.heap.size+1,0,none⟩),.pointer (some ⟨w5.heap.size+1+1+1+1,0,none⟩),.pointer (some ⟨w5.heap.size+1+1+1+1+1,0,none⟩)]] 126):=⟨_,rfl⟩
 rw[←h1,←h2,←h3,←h4,←h5,←h6]
 have s1:x1.heap.size=w5.heap.size+1:=by rw[h1];simp
 have s2:x2.heap.size=w5.heap.size+1+1:=by rw[h2];simp[s1]
 have s3:x3.heap.size=w5.heap.size+1+1+1:=by rw[h3];simp[s2]
 have s4:x4.heap.size=w5.heap.size+1+1+1+1:=by rw[h4];simp[s3]
 have s5:x5.heap.size=w5.heap.size+1+1+1+1+1:=by rw[h5];simp[s4]
 have e01:Ext w5 x1:=by rw[h1];exact (Ext.refl _).alloc _
 have e12:Ext x1 x2:=by rw[h2];exact (Ext.refl _).alloc _
 have e23:Ext x2 x3:=by rw[h3];exact (Ext.refl _).alloc _
 have e34:Ext x3 x4:=by rw[h4];exact (Ext.refl _).alloc _
 have e45:Ext x4 x5:=by rw[h5];exact (Ext.refl _).alloc _
 have e56:Ext x5 x6:=by rw[h6];exact (Ext.refl _).alloc _
 have B1:Blk x1 w5.heap.size 22 #[.slice aoL (elems A).length cL]:=by rw[h1];exact Blk.new _ _ _
 have B2:Blk x2 (w5.heap.size+1) 22 #[.slice aoE (elems B).length cE]:=by rw[h2,←s1];exact Blk.new _ _ _
 have O3:Own 3 x2 x3 (.slice (some ⟨w5.heap.size+1+1,0,none⟩) 0 0) []:=by rw[h3,←s2];exact own_made (TI:=3) (n:=0) (by omega) (Ext.refl x2) [] rfl
 have B4:Blk x4 (w5.heap.size+1+1+1) 22 #[.slice (some ⟨w5.heap.size+1+1,0,none⟩) 0 0]:=by rw[h4,←s3];exact Blk.new _ _ _
 have B5:Blk x5 (w5.heap.size+1+1+1+1) 3 #[.int .i64 0]:=by rw[h5,←s4];exact Blk.new _ _ _
 have B6:Blk x6 (w5.heap.size+1+1+1+1+1) 126 #[.func (.func 179) #[] #[.pointer (some ⟨w5.heap.size+1+1+1,0,none⟩),.pointer (some ⟨w5.heap.size,0,none⟩),.pointer (some ⟨w.heap.size,0,none⟩),.pointer (some ⟨w.heap.size+1,0,none⟩),.pointer (some ⟨w5.heap.size+1,0,none⟩),.pointer (some ⟨w5.heap.size+1+1+1+1,0,none⟩),.pointer (some ⟨w5.heap.size+1+1+1+1+1,0,none⟩)]]:=by rw[h6,←s5];exact Blk.new _ _ _
 have e02:=e01.trans e12
 have e25:=e23.trans (e34.trans e45)
 have e26:=e25.trans e56
 have hEb2:=hE2b.trans (hE4.trans (hE5.trans e02))
 have HHB:=Lib.hid hEb2
 have Hh6:=Lib.hid h6
 clear h1 h2 h3 h4 h5 h6
 have cT:=tryF_any v u g h (elems A) (elems B) aoL aoE cL cE Hgg Hgh hla Hcp.out hlb (elems_len B) x2 (w5.heap.size+1+1+1) w5.heap.size w.heap.size (w.heap.size+1) (w5.heap.size+1) (w5.heap.size+1+1+1+1) (w5.heap.size+1+1+1+1+1) (by omega) (by omega) (by omega) (by omega) (by omega) _
  (fun W hW=>((B1.ext e12).ext hW).cell (i:=0) rfl) (fun W hW=>b0 W (hEb2.trans hW)) (fun W hW=>b1 W (hEb2.trans hW)) (fun W hW=>(B2.ext hW).cell (i:=0) rfl) (Lib.hid fun W hW=>⟨HV.out W (hEb2.trans hW),HU.out W (hEb2.trans hW),(HOL.out.ext (e02.trans hW)).ints,(HOE.out.ext (e02.trans hW)).ints⟩) rfl
  (cnt A+1) [] _ x6 (by simp) (by simp[cnt]) (by simp) e26 (B4.ext (e45.trans e56)) (O3.ext (e34.trans (e45.trans e56))) (by simp[Value.ownBlock]) (B5.ext e56) B6
 obtain⟨r,hr⟩:∃r,r=fiI g h (elems A) (elems B) (cnt A+1) []:=⟨_,rfl⟩
 rw[←hr] at cT HR
 clear hr
 refine cT.mono ?_
 rintro e w7 ⟨rfl,v7,u7,hB7,-,-,hO7,hF7,-⟩
 have hE7:Ext x2 w7:=hF7.ext e26 (by
  rintro k (rfl | rfl | hk)
  · omega
  · omega
  · simp[Value.ownBlock] at hk;omega)
 have hEf:=hE0.trans (hEb2.trans hE7)
 clear hF7 cT
 cases r with
 | none =>
  have H1:=Lib.hid (ff_no HR.out)
  go_wp2_with fail
  rw[H1.out.1,H1.out.2]
  exact bodyPost_ret (v:=.tuple #[.slice (some ⟨w7.heap.size,0,none⟩) 0 0,.bool false]) (by simp[results,Tryz.results105,go_sem]) rfl ⟨_,rfl,own_made (TI:=3) (n:=0) (by omega) hEf (castL []) rfl,Ext.alloc hEf _⟩
 | some N =>
  have H1:=Lib.hid (ff_yes HR.out)
  obtain⟨a7,c7,rfl,-⟩:=hO7.shape
  have hO8:Own 3 x2 w7 (.slice a7 (castL N).length c7) (castL N):=hO7
  have hB8:Blk w7 (w5.heap.size+1+1+1) 22 #[.slice a7 (castL N).length c7]:=hB7
  have k7:=hB8.cell (i:=0) (v:=.slice a7 (castL N).length c7) rfl
  clear hO7 hB7
  go_wp2_with fail
  rw[H1.out.1,H1.out.2]
  exact bodyPost_ret (v:=.tuple #[.slice a7 (castL N).length c7,.bool true]) (by simp[results,Tryz.results105,go_sem]) rfl ⟨_,rfl,hO8.mono (hE0.trans hEb2),hEf⟩
end Go.Zz
namespace Go.Zz
open Go.RowKit Go.Proofs
set_option maxHeartbeats 400000
set_option maxRecDepth 4000
def loF(l:List Int)(a:Int):List Int:=if isSetB l a then castL (elems a.toNat) else []
theorem loF_no{l:List Int}{a:Int}(h:isSetB l a=false):loF l a=[]:=by unfold loF;rw[h];rfl
theorem loF_nat{l:List Int}{n:Nat}(h:isSetB l n=true):loF l n=castL (elems n):=by unfold loF;rw[h];rfl
theorem sListOf_any(v:Value)(l:List Int)(a:Int)(w:World)(h:Ints w v l) :
 Calls Tryz.prog 142 #[.agg #[v],.int .i64 a] w fun e w'=>∃u,e=.returned u∧Own 3 w w' u (loF l a)∧Ext w w':=by
 have hE0:=(Ext.refl w).alloc (.cells #[v] 27)
 have hE:=Ext.refl (w.alloc (.cells #[v] 27))
 have hb:=box_cell w v 27
 have hg:∀W,Ext (w.alloc (.cells #[v] 27)) W→Ints W v l:=fun W hW=>h.ext (hE0.trans hW)
 clear h
 cases hs:isSetB l a
 · have He:=Lib.hid (loF_no hs)
   go_enter Tryz.func142,Tryz.ntmps142
   go_wp2_with (first | (go_at_call 126;refine (sIsSet_any _ _ _ _ (hg _ hE)).mono ?_;rintro e w' ⟨rfl,hE'⟩;replace hE:=hE.trans hE';clear hE'))
   go_ret
   have hE2:=hE0.trans hE
   exact⟨_,rfl,by rw[He.out];exact own_made (TI:=3) (n:=0) (by omega) hE2 [] rfl,hE2.alloc _⟩
 · obtain⟨n,rfl,-,hn,-⟩:=isSetB_nat hs
   have He:=Lib.hid (loF_nat hs)
   go_enter Tryz.func142,Tryz.ntmps142
   go_wp2_with (first | (go_at_call 126;refine (sIsSet_any _ _ _ _ (hg _ hE)).mono ?_;rintro e w' ⟨rfl,hE'⟩;replace hE:=hE.trans hE';clear hE') | (go_at_call 108;refine (l3List_any _ (hn) _).mono ?_;rintro e w1 ⟨v1,rfl,hL,hE1⟩;obtain⟨aoL,cL,adrL,rfl,hadrL,hcellL⟩:=hL.ints.nats;have hixL:=ints_index (c:=cL) elI szI hadrL;clear hadrL))
   go_ret
   have hE2:=hE0.trans hE
   exact⟨_,rfl,by rw[He.out];simpa[castL_len] using hL.mono hE2,hE2.trans hE1⟩
theorem ListOf_any(v:Value)(l:List Int)(a:Int)(w:World)(h:Ints w v l) :
 Calls Tryz.prog 106 #[.agg #[v],.int .i64 a] w fun e w'=>∃u,e=.returned u∧Own 3 w w' u (loF l a)∧Ext w w':=by
 have hE0:=(Ext.refl w).alloc (.cells #[v] 27)
 have hE:=Ext.refl (w.alloc (.cells #[v] 27))
 have hb:=box_cell w v 27
 have hg:∀W,Ext (w.alloc (.cells #[v] 27)) W→Ints W v l:=fun W hW=>h.ext (hE0.trans hW)
 clear h
 cases hs:isSetB l a
 · have He:=Lib.hid (loF_no hs)
   go_enter Tryz.func106,Tryz.ntmps106
   go_wp2_with (first | (go_at_call 152;refine (IsSet_any _ _ _ _ (hg _ hE)).mono ?_;rintro e w' ⟨rfl,hE'⟩;replace hE:=hE.trans hE';clear hE'))
   go_ret
   have hE2:=hE0.trans hE
   exact⟨_,rfl,by rw[He.out];exact own_made (TI:=3) (n:=0) (by omega) hE2 [] rfl,hE2.alloc _⟩
 · obtain⟨n,rfl,-,hn,-⟩:=isSetB_nat hs
   have He:=Lib.hid (loF_nat hs)
   go_enter Tryz.func106,Tryz.ntmps106
   go_wp2_with (first | (go_at_call 152;refine (IsSet_any _ _ _ _ (hg _ hE)).mono ?_;rintro e w' ⟨rfl,hE'⟩;replace hE:=hE.trans hE';clear hE') | (go_at_call 153;refine (members_any _ (hn) _).mono ?_;rintro e w1 ⟨v1,rfl,hL,hE1⟩;obtain⟨aoL,cL,adrL,rfl,hadrL,hcellL⟩:=hL.ints.nats;have hixL:=ints_index (c:=cL) elI szI hadrL;clear hadrL))
   go_ret
   have hE2:=hE0.trans hE
   exact⟨_,rfl,by rw[He.out];simpa[castL_len] using hL.mono hE2,hE2.trans hE1⟩
end Go.Zz
namespace Go.Zz
open Go.RowKit Go.Proofs
set_option maxHeartbeats 2000000
set_option maxRecDepth 20000
def caK(g h:List Int)(a b:Int):Int:=if ffB g h a b then 5 else 0
def caA(g h:List Int)(a b:Int):Int:=if ffB g h a b then a else 0
def caB(g h:List Int)(a b:Int):Int:=if ffB g h a b then b else 0
def caG(g h:List Int)(a b:Int):List Int:=if ffB g h a b then g else []
def caO(g h:List Int)(a b:Int):List Int:=if ffB g h a b then h else []
def caT(g h:List Int)(a b:Int):List Int:=if ffB g h a b then loF g a else []
def caQ(g h:List Int)(a b:Int):List Int:=castL (ffL g h a b)
theorem ca_no{g h:List Int}{a b:Int}(e:ffB g h a b=false):caK g h a b=0∧caA g h a b=0∧caB g h a b=0∧caG g h a b=[]∧caO g h a b=[]∧caT g h a b=[]∧caQ g h a b=[]:=by
 have hl:ffL g h a b=[]:=by
  unfold ffB at e;unfold ffL
  cases hr:ffR g h a b with
  | none=>rfl
  | some N=>rw[hr] at e;cases e
 unfold caK caA caB caG caO caT caQ;rw[e,hl];exact⟨rfl,rfl,rfl,rfl,rfl,rfl,rfl⟩
theorem ca_yes{g h:List Int}{a b:Int}(e:ffB g h a b=true):caK g h a b=5∧caA g h a b=a∧caB g h a b=b∧caG g h a b=g∧caO g h a b=h∧caT g h a b=loF g a:=by
 unfold caK caA caB caG caO caT;rw[e];exact⟨rfl,rfl,rfl,rfl,rfl,rfl⟩
theorem ffB_set{g h:List Int}{a b:Int}(e:ffB g h a b=true):isSetB g a=true:=by
 unfold ffB ffR at e
 by_cases hc:ffC g h a b=true
 · unfold ffC at hc;simp only[Bool.and_eq_true] at hc;exact hc.1.1
 · rw[if_neg hc] at e;cases e
theorem ClaimOfAlike_any(v u:Value)(g h:List Int)(a b:Int)(w:World)(hv:Ints w v g)(hu:Ints w u h) :
 Calls Tryz.prog 26 #[.agg #[v],.agg #[u],.int .i64 a,.int .i64 b] w fun e w'=>∃v1 v2 v3 v4,e=.returned (.tuple #[CV (caK g h a b) v1 v2 (caA g h a b) (caB g h a b) 0 0 v3 v4 0,.bool (ffB g h a b)])∧Own4 w w' v1 v2 v3 v4 (caG g h a b) (caO g h a b) (caT g h a b) (caQ g h a b)∧Ext w w':=by
 obtain⟨wb,hwb⟩:∃wb,wb=(w.alloc (.cells #[v] 27)).alloc (.cells #[u] 27):=⟨_,rfl⟩
 have hE0:Ext w wb:=by rw[hwb];exact ((Ext.refl _).alloc _).alloc _
 have B0:Blk wb w.heap.size 27 #[v]:=by rw[hwb];exact (Blk.new _ _ _).alloc _
 have B1:Blk wb (w.heap.size+1) 27 #[u]:=by rw[hwb];simpa using Blk.new (w.alloc (.cells #[v] 27)) 27 #[u]
 have b0:∀W,Ext wb W→W.cell? ⟨w.heap.size,0,none⟩=some v:=fun W hW=>(B0.ext hW).cell (i:=0) rfl
 have b1:∀W,Ext wb W→W.cell? ⟨w.heap.size+1,0,none⟩=some u:=fun W hW=>(B1.ext hW).cell (i:=0) rfl
 have HV:=Lib.hid (fun W (hW:Ext wb W)=>hv.ext (hE0.trans hW))
 have HU:=Lib.hid (fun W (hW:Ext wb W)=>hu.ext (hE0.trans hW))
 have hE:=Ext.refl wb
 have Hwb:=Lib.hid hwb
 clear hv hu hwb B0 B1
 obtain⟨wc,hwc⟩:∃wc,wc=wb.alloc (.cells #[.int .i64 0,.slice none 0 0,.slice none 0 0,.int .i64 0,.int .i64 0,.int .i64 0,.int .i64 0,.slice none 0 0,.slice none 0 0,.int .i64 0] 38):=⟨_,rfl⟩
 have hBc:Blk wc wb.heap.size 38 #[.int .i64 0,.slice none 0 0,.slice none 0 0,.int .i64 0,.int .i64 0,.int .i64 0,.int .i64 0,.slice none 0 0,.slice none 0 0,.int .i64 0]:=by rw[hwc];exact Blk.new _ _ _
 have hRc:Res wc wb.heap.size 10:=hBc.res (by simp)
 have hAc:Ext wb wc:=by rw[hwc];exact hE.alloc _
 replace hE:=Ext.refl wc
 have Hsz2:Hid (wb.heap.size+1=wc.heap.size):=Lib.hid (by rw[hwc];simp[go_sem])
 have Hwc:=Lib.hid hwc
 clear hwc hBc
 have hwc:wb.heap.size<wc.heap.size:=by have:=Hsz2.out;omega
 have Hsz:Hid (w.heap.size+1+1=wb.heap.size):=Lib.hid (by rw[Hwb.out];simp[go_sem])
 have cF:=fun W (hW:Ext wc W)=>FindFreimanIso_any v u g h a b W (HV.out W (hAc.trans hW)) (HU.out W (hAc.trans hW))
 have c0:=fun W (hW:Ext wc W)=>b0 W (hAc.trans hW)
 have c1:=fun W (hW:Ext wc W)=>b1 W (hAc.trans hW)
 cases hs:ffB g h a b
 · have Hs:=Lib.hid (ca_no hs)
   rw[hs] at cF
   clear hs
   go_enter Tryz.func26,Tryz.ntmps26
   go_wp2_with fail
   rw[←Hwb.out,←Hwc.out];rw[Hsz.out]
   refine (cF _ hE).mono ?_
   rintro e w1 ⟨vM,rfl,-,hE1⟩
   have hr:=hRc.ext hE1
   unfold Res at hr
   go_wp2_with fail
   exact bodyPost_ret (v:=.tuple #[CV 0 (.slice none 0 0) (.slice none 0 0) 0 0 0 0 (.slice none 0 0) (.slice none 0 0) 0,.bool false]) (by simp[results,Tryz.results26,go_sem,hr,CV]) rfl ⟨_,_,_,_,by rw[Hs.out.1,Hs.out.2.1,Hs.out.2.2.1],by rw[Hs.out.2.2.2.1,Hs.out.2.2.2.2.1,Hs.out.2.2.2.2.2.1,Hs.out.2.2.2.2.2.2];exact⟨Own.nil _ _ _,Own.nil _ _ _,Own.nil _ _ _,Own.nil _ _ _,Apart.nil_left _,Apart.nil_left _,Apart.nil_left _,Apart.nil_left _,Apart.nil_left _,Apart.nil_left _⟩,hE0.trans (by (repeat (refine Ext.setCell ?_ (Nat.le_refl _) _));exact hAc.trans hE1)⟩
 · have Hs:=Lib.hid (ca_yes hs)
   have hset:=ffB_set hs
   obtain⟨A,rfl,-,hA24,-⟩:=isSetB_nat hset
   have hlo:=loF_nat hset
   rw[hs] at cF
   clear hs
   go_enter Tryz.func26,Tryz.ntmps26
   go_wp2_with fail
   rw[←Hwb.out,←Hwc.out];rw[Hsz.out]
   refine (cF _ hE).mono ?_
   rintro e w1 ⟨vM,rfl,hOM,hE1⟩
   obtain⟨aoM,cM,rfl,-⟩:=hOM.shape
   have k0:=c0 _ hE1
   have k1:=c1 _ hE1
   obtain⟨LM,hLM⟩:∃x,x=castL (ffL g h (A:Int) b):=⟨_,rfl⟩
   have HLM:Hid (caQ g h (A:Int) b=LM):=Lib.hid (by rw[hLM];rfl)
   rw[←hLM] at hOM ⊢
   clear hLM
   have HOM:=Lib.hid hOM
   clear hOM
   obtain⟨LL,hLL⟩:∃x,x=loF g (A:Int):=⟨_,rfl⟩
   have HLL:Hid (loF g (A:Int)=LL):=Lib.hid hLL.symm
   have cL:=fun W (hW:Ext wc W)=>Calls.sh (ListOf_any v g (A:Int) W (HV.out W (hAc.trans hW)))
   have cG:=fun W (hW:Ext wc W)=>copyGroup_any v g W (HV.out W (hAc.trans hW))
   have cO:=fun W (hW:Ext wc W)=>copyGroup_any u h W (HU.out W (hAc.trans hW))
   have Hlo:=Lib.hid hlo
   have hE:=hE1
   clear hlo hLL hset cF c0 c1
   go_wp2_with fail
   have hD:=hE.drew
   first | (go_region_held3 (fun W=>Ext (wb) W∧W.cell? ⟨w.heap.size,0,none⟩=some v∧W.cell? ⟨w.heap.size+1,0,none⟩=some u∧(∀i,i<10→W.cell? ⟨(wb).heap.size,i,none⟩=some (At W ⟨(wb).heap.size,i,none⟩)∧W.frozen? ⟨(wb).heap.size,i,none⟩=false)) (exact⟨(by (repeat (refine Ext.setCell ?_ (Nat.le_refl _) _));exact Ext.trans hAc (by repeat (first | assumption | exact Ext.refl _ | (apply And.left;assumption) | apply Ext.drew | apply Ext.alloc))),b0 _ (by (repeat (refine Ext.setCell ?_ (Nat.le_refl _) _));exact Ext.trans hAc (by repeat (first | assumption | exact Ext.refl _ | (apply And.left;assumption) | apply Ext.drew | apply Ext.alloc))),b1 _ (by (repeat (refine Ext.setCell ?_ (Nat.le_refl _) _));exact Ext.trans hAc (by repeat (first | assumption | exact Ext.refl _ | (apply And.left;assumption) | apply Ext.drew | apply Ext.alloc))),(by (repeat (refine Res.setCell ?_ _ _));exact Res.ext hRc (by repeat (first | assumption | exact Ext.refl _ | (apply And.left;assumption) | apply Ext.drew | apply Ext.alloc)))⟩) (first | (go_at_call 80;((with_reducible refine Calls.mono (cG _ (by repeat (first | assumption | exact Ext.refl _ | (apply And.left;assumption) | apply Ext.drew | apply Ext.alloc))) ?_);rintro e wH0 ⟨aoG,cGc,rfl,hOG,hX0⟩;have hH0:=Ext.trans (a:=wc) (by repeat (first | assumption | exact Ext.refl _ | (apply And.left;assumption) | apply Ext.drew | apply Ext.alloc)) hX0)) | (go_at_call 80;((with_reducible refine Calls.mono (cO _ (by repeat (first | assumption | exact Ext.refl _ | (apply And.left;assumption) | apply Ext.drew | apply Ext.alloc))) ?_);rintro e wH1 ⟨aoO,cOc,rfl,hOO,hX1⟩;have hH1:=Ext.trans (a:=wc) (by repeat (first | assumption | exact Ext.refl _ | (apply And.left;assumption) | apply Ext.drew | apply Ext.alloc)) hX1)) | (go_at_call 106;((with_reducible refine Calls.mono (cL _ (by repeat (first | assumption | exact Ext.refl _ | (apply And.left;assumption) | apply Ext.drew | apply Ext.alloc))) ?_);rintro e wH2 ⟨aoT,cTc,rfl,hOT,hX2⟩;have hH2:=Ext.trans (a:=wc) (by repeat (first | assumption | exact Ext.refl _ | (apply And.left;assumption) | apply Ext.drew | apply Ext.alloc)) hX2)))) | (fail "the region with a result")
   have hw1:Ext w1 (World.drew w1):=(Ext.refl w1).drew
   have sw1:=hw1.size
   all_goals
    have hOGc:=hOG.mono (show Ext wc _ by repeat (first | assumption | exact Ext.refl _ | (apply And.left;assumption) | apply Ext.drew | apply Ext.alloc))
    have hOOc:=hOO.mono (show Ext wc _ by repeat (first | assumption | exact Ext.refl _ | (apply And.left;assumption) | apply Ext.drew | apply Ext.alloc))
    have hOTc:=hOT.mono (show Ext wc _ by repeat (first | assumption | exact Ext.refl _ | (apply And.left;assumption) | apply Ext.drew | apply Ext.alloc))
    have hr2:=hRc.ext hH2
    unfold Res at hr2
    have s0:=hX0.size
    have s1:=hX1.size
    have s2:=hX2.size
    have aGO:Apart (.slice aoG g.length cGc) (.slice aoO h.length cOc):=by first | (refine apart_of hOG hOO ?_;omega;done) | (refine (apart_of hOO hOG ?_).symm;omega;done)
    have aGT:=by first | (refine apart_of hOG hOT ?_;omega;done) | (refine (apart_of hOT hOG ?_).symm;omega;done)
    have aOT:=by first | (refine apart_of hOO hOT ?_;omega;done) | (refine (apart_of hOT hOO ?_).symm;omega;done)
    have aMG:=apart_of HOM.out hOG (by omega)
    have aMO:=apart_of HOM.out hOO (by omega)
    have aMT:=apart_of HOM.out hOT (by omega)
    have HA:=Lib.hid (And.intro (And.intro aGO aGT) (And.intro (And.intro aOT aMG) (And.intro aMO aMT)))
    clear aGO aGT aOT aMG aMO aMT s0 s1 s2
    go_wp2_with fail
    exact bodyPost_ret (v:=.tuple #[CV 5 (.slice aoG g.length cGc) (.slice aoO h.length cOc) (A:Int) b 0 0 (.slice aoT (loF g (A:Int)).length cTc) (.slice aoM LM.length cM) 0,.bool true]) (by simp[results,Tryz.results26,go_sem,hr2,CV]) rfl ⟨_,_,_,_,by rw[Hs.out.1,Hs.out.2.1,Hs.out.2.2.1],by
     rw[Hs.out.2.2.2.1,Hs.out.2.2.2.2.1,Hs.out.2.2.2.2.2,HLM.out]
     exact⟨(show Own 3 wc _ _ _ by
      repeat (refine Own.setCell_below ?_ hwc _)
      first | exact hOGc | exact hOGc.ext hX1 | exact hOGc.ext hX2 | exact hOGc.ext (hX1.trans hX2) | exact hOGc.ext (hX2.trans hX1)).mono (hE0.trans hAc),
      (show Own 3 wc _ _ _ by
      repeat (refine Own.setCell_below ?_ hwc _)
      first | exact hOOc | exact hOOc.ext hX0 | exact hOOc.ext hX2 | exact hOOc.ext (hX0.trans hX2) | exact hOOc.ext (hX2.trans hX0)).mono (hE0.trans hAc),
      (show Own 3 wc _ _ _ by
      repeat (refine Own.setCell_below ?_ hwc _)
      skip
      first | exact hOTc | exact hOTc.ext hX0 | exact hOTc.ext hX1 | exact hOTc.ext (hX0.trans hX1) | exact hOTc.ext (hX1.trans hX0)).mono (hE0.trans hAc),
      (show Own 3 wc _ _ _ by
      repeat (refine Own.setCell_below ?_ hwc _)
      first | exact HOM.out.ext (hw1.trans (hX0.trans (hX1.trans hX2))) | exact HOM.out.ext (hw1.trans (hX0.trans (hX2.trans hX1))) | exact HOM.out.ext (hw1.trans (hX1.trans (hX0.trans hX2))) | exact HOM.out.ext (hw1.trans (hX1.trans (hX2.trans hX0))) | exact HOM.out.ext (hw1.trans (hX2.trans (hX0.trans hX1))) | exact HOM.out.ext (hw1.trans (hX2.trans (hX1.trans hX0)))).mono (hE0.trans hAc),
      HA.out.1.1,HA.out.1.2,HA.out.2.1.2.symm,HA.out.2.1.1,HA.out.2.2.1.symm,HA.out.2.2.2.symm⟩,
     hE0.trans (by
      repeat (refine Ext.setCell ?_ (Nat.le_refl _) _)
      first | exact hAc.trans hH0 | exact hAc.trans hH1 | exact hAc.trans hH2)⟩
theorem sClaimOfAlike_any(v u:Value)(g h:List Int)(a b:Int)(w:World)(hv:Ints w v g)(hu:Ints w u h) :
 Calls Tryz.prog 27 #[.agg #[v],.agg #[u],.int .i64 a,.int .i64 b] w fun e w'=>∃v1 v2 v3 v4,e=.returned (.tuple #[CV (caK g h a b) v1 v2 (caA g h a b) (caB g h a b) 0 0 v3 v4 0,.bool (ffB g h a b)])∧Own4 w w' v1 v2 v3 v4 (caG g h a b) (caO g h a b) (caT g h a b) (caQ g h a b)∧Ext w w':=by
 obtain⟨wb,hwb⟩:∃wb,wb=(w.alloc (.cells #[v] 27)).alloc (.cells #[u] 27):=⟨_,rfl⟩
 have hE0:Ext w wb:=by rw[hwb];exact ((Ext.refl _).alloc _).alloc _
 have B0:Blk wb w.heap.size 27 #[v]:=by rw[hwb];exact (Blk.new _ _ _).alloc _
 have B1:Blk wb (w.heap.size+1) 27 #[u]:=by rw[hwb];simpa using Blk.new (w.alloc (.cells #[v] 27)) 27 #[u]
 have b0:∀W,Ext wb W→W.cell? ⟨w.heap.size,0,none⟩=some v:=fun W hW=>(B0.ext hW).cell (i:=0) rfl
 have b1:∀W,Ext wb W→W.cell? ⟨w.heap.size+1,0,none⟩=some u:=fun W hW=>(B1.ext hW).cell (i:=0) rfl
 have HV:=Lib.hid (fun W (hW:Ext wb W)=>hv.ext (hE0.trans hW))
 have HU:=Lib.hid (fun W (hW:Ext wb W)=>hu.ext (hE0.trans hW))
 have hE:=Ext.refl wb
 have Hwb:=Lib.hid hwb
 clear hv hu hwb B0 B1
 obtain⟨wc,hwc⟩:∃wc,wc=wb.alloc (.cells #[.int .i64 0,.slice none 0 0,.slice none 0 0,.int .i64 0,.int .i64 0,.int .i64 0,.int .i64 0,.slice none 0 0,.slice none 0 0,.int .i64 0] 38):=⟨_,rfl⟩
 have hBc:Blk wc wb.heap.size 38 #[.int .i64 0,.slice none 0 0,.slice none 0 0,.int .i64 0,.int .i64 0,.int .i64 0,.int .i64 0,.slice none 0 0,.slice none 0 0,.int .i64 0]:=by rw[hwc];exact Blk.new _ _ _
 have hRc:Res wc wb.heap.size 10:=hBc.res (by simp)
 have hAc:Ext wb wc:=by rw[hwc];exact hE.alloc _
 replace hE:=Ext.refl wc
 have Hsz2:Hid (wb.heap.size+1=wc.heap.size):=Lib.hid (by rw[hwc];simp[go_sem])
 have Hwc:=Lib.hid hwc
 clear hwc hBc
 have hwc:wb.heap.size<wc.heap.size:=by have:=Hsz2.out;omega
 have Hsz:Hid (w.heap.size+1+1=wb.heap.size):=Lib.hid (by rw[Hwb.out];simp[go_sem])
 have cF:=fun W (hW:Ext wc W)=>sFindFreimanIso_any v u g h a b W (HV.out W (hAc.trans hW)) (HU.out W (hAc.trans hW))
 have c0:=fun W (hW:Ext wc W)=>b0 W (hAc.trans hW)
 have c1:=fun W (hW:Ext wc W)=>b1 W (hAc.trans hW)
 cases hs:ffB g h a b
 · have Hs:=Lib.hid (ca_no hs)
   rw[hs] at cF
   clear hs
   go_enter Tryz.func27,Tryz.ntmps27
   go_wp2_with fail
   rw[←Hwb.out,←Hwc.out];rw[Hsz.out]
   refine (cF _ hE).mono ?_
   rintro e w1 ⟨vM,rfl,-,hE1⟩
   have hr:=hRc.ext hE1
   unfold Res at hr
   go_wp2_with fail
   exact bodyPost_ret (v:=.tuple #[CV 0 (.slice none 0 0) (.slice none 0 0) 0 0 0 0 (.slice none 0 0) (.slice none 0 0) 0,.bool false]) (by simp[results,Tryz.results27,go_sem,hr,CV]) rfl ⟨_,_,_,_,by rw[Hs.out.1,Hs.out.2.1,Hs.out.2.2.1],by rw[Hs.out.2.2.2.1,Hs.out.2.2.2.2.1,Hs.out.2.2.2.2.2.1,Hs.out.2.2.2.2.2.2];exact⟨Own.nil _ _ _,Own.nil _ _ _,Own.nil _ _ _,Own.nil _ _ _,Apart.nil_left _,Apart.nil_left _,Apart.nil_left _,Apart.nil_left _,Apart.nil_left _,Apart.nil_left _⟩,hE0.trans (by (repeat (refine Ext.setCell ?_ (Nat.le_refl _) _));exact hAc.trans hE1)⟩
 · have Hs:=Lib.hid (ca_yes hs)
   have hset:=ffB_set hs
   obtain⟨A,rfl,-,hA24,-⟩:=isSetB_nat hset
   have hlo:=loF_nat hset
   rw[hs] at cF
   clear hs
   go_enter Tryz.func27,Tryz.ntmps27
   go_wp2_with fail
   rw[←Hwb.out,←Hwc.out];rw[Hsz.out]
   refine (cF _ hE).mono ?_
   rintro e w1 ⟨vM,rfl,hOM,hE1⟩
   obtain⟨aoM,cM,rfl,-⟩:=hOM.shape
   have k0:=c0 _ hE1
   have k1:=c1 _ hE1
   obtain⟨LM,hLM⟩:∃x,x=castL (ffL g h (A:Int) b):=⟨_,rfl⟩
   have HLM:Hid (caQ g h (A:Int) b=LM):=Lib.hid (by rw[hLM];rfl)
   rw[←hLM] at hOM ⊢
   clear hLM
   have HOM:=Lib.hid hOM
   clear hOM
   obtain⟨LL,hLL⟩:∃x,x=loF g (A:Int):=⟨_,rfl⟩
   have HLL:Hid (loF g (A:Int)=LL):=Lib.hid hLL.symm
   have cL:=fun W (hW:Ext wc W)=>Calls.sh (l3List_any A hA24 W)
   have cG:=fun W (hW:Ext wc W)=>l33Group_any v g W (HV.out W (hAc.trans hW))
   have cO:=fun W (hW:Ext wc W)=>l33Group_any u h W (HU.out W (hAc.trans hW))
   have Hlo:=Lib.hid hlo
   have hE:=hE1
   clear hlo hLL hset cF c0 c1
   go_wp2_with fail
   have hD:=hE.drew
   first | (go_region_held3 (fun W=>Ext (wb) W∧W.cell? ⟨w.heap.size,0,none⟩=some v∧W.cell? ⟨w.heap.size+1,0,none⟩=some u∧(∀i,i<10→W.cell? ⟨(wb).heap.size,i,none⟩=some (At W ⟨(wb).heap.size,i,none⟩)∧W.frozen? ⟨(wb).heap.size,i,none⟩=false)) (exact⟨(by (repeat (refine Ext.setCell ?_ (Nat.le_refl _) _));exact Ext.trans hAc (by repeat (first | assumption | exact Ext.refl _ | (apply And.left;assumption) | apply Ext.drew | apply Ext.alloc))),b0 _ (by (repeat (refine Ext.setCell ?_ (Nat.le_refl _) _));exact Ext.trans hAc (by repeat (first | assumption | exact Ext.refl _ | (apply And.left;assumption) | apply Ext.drew | apply Ext.alloc))),b1 _ (by (repeat (refine Ext.setCell ?_ (Nat.le_refl _) _));exact Ext.trans hAc (by repeat (first | assumption | exact Ext.refl _ | (apply And.left;assumption) | apply Ext.drew | apply Ext.alloc))),(by (repeat (refine Res.setCell ?_ _ _));exact Res.ext hRc (by repeat (first | assumption | exact Ext.refl _ | (apply And.left;assumption) | apply Ext.drew | apply Ext.alloc)))⟩) (first | (go_at_call 83;((with_reducible refine Calls.mono (cG _ (by repeat (first | assumption | exact Ext.refl _ | (apply And.left;assumption) | apply Ext.drew | apply Ext.alloc))) ?_);rintro e wH0 ⟨aoG,cGc,rfl,hOG,hX0⟩;have hH0:=Ext.trans (a:=wc) (by repeat (first | assumption | exact Ext.refl _ | (apply And.left;assumption) | apply Ext.drew | apply Ext.alloc)) hX0)) | (go_at_call 83;((with_reducible refine Calls.mono (cO _ (by repeat (first | assumption | exact Ext.refl _ | (apply And.left;assumption) | apply Ext.drew | apply Ext.alloc))) ?_);rintro e wH1 ⟨aoO,cOc,rfl,hOO,hX1⟩;have hH1:=Ext.trans (a:=wc) (by repeat (first | assumption | exact Ext.refl _ | (apply And.left;assumption) | apply Ext.drew | apply Ext.alloc)) hX1)) | (go_at_call 108;((with_reducible refine Calls.mono (cL _ (by repeat (first | assumption | exact Ext.refl _ | (apply And.left;assumption) | apply Ext.drew | apply Ext.alloc))) ?_);rintro e wH2 ⟨aoT,cTc,rfl,hOT,hX2⟩;have hH2:=Ext.trans (a:=wc) (by repeat (first | assumption | exact Ext.refl _ | (apply And.left;assumption) | apply Ext.drew | apply Ext.alloc)) hX2)))) | (fail "the region with a result")
   have hw1:Ext w1 (World.drew w1):=(Ext.refl w1).drew
   have sw1:=hw1.size
   all_goals
    have hOGc:=hOG.mono (show Ext wc _ by repeat (first | assumption | exact Ext.refl _ | (apply And.left;assumption) | apply Ext.drew | apply Ext.alloc))
    have hOOc:=hOO.mono (show Ext wc _ by repeat (first | assumption | exact Ext.refl _ | (apply And.left;assumption) | apply Ext.drew | apply Ext.alloc))
    have hOTc:=hOT.mono (show Ext wc _ by repeat (first | assumption | exact Ext.refl _ | (apply And.left;assumption) | apply Ext.drew | apply Ext.alloc))
    have hr2:=hRc.ext hH2
    unfold Res at hr2
    have s0:=hX0.size
    have s1:=hX1.size
    have s2:=hX2.size
    have aGO:Apart (.slice aoG g.length cGc) (.slice aoO h.length cOc):=by first | (refine apart_of hOG hOO ?_;omega;done) | (refine (apart_of hOO hOG ?_).symm;omega;done)
    have aGT:=by first | (refine apart_of hOG hOT ?_;omega;done) | (refine (apart_of hOT hOG ?_).symm;omega;done)
    have aOT:=by first | (refine apart_of hOO hOT ?_;omega;done) | (refine (apart_of hOT hOO ?_).symm;omega;done)
    have aMG:=apart_of HOM.out hOG (by omega)
    have aMO:=apart_of HOM.out hOO (by omega)
    have aMT:=apart_of HOM.out hOT (by omega)
    have HA:=Lib.hid (And.intro (And.intro aGO aGT) (And.intro (And.intro aOT aMG) (And.intro aMO aMT)))
    clear aGO aGT aOT aMG aMO aMT s0 s1 s2
    go_wp2_with fail
    exact bodyPost_ret (v:=.tuple #[CV 5 (.slice aoG g.length cGc) (.slice aoO h.length cOc) (A:Int) b 0 0 (.slice aoT (castL (elems A)).length cTc) (.slice aoM LM.length cM) 0,.bool true]) (by simp[results,Tryz.results27,go_sem,hr2,CV]) rfl ⟨_,_,_,_,by rw[Hs.out.1,Hs.out.2.1,Hs.out.2.2.1],by
     rw[Hs.out.2.2.2.1,Hs.out.2.2.2.2.1,Hs.out.2.2.2.2.2,HLM.out]
     exact⟨(show Own 3 wc _ _ _ by
      repeat (refine Own.setCell_below ?_ hwc _)
      first | exact hOGc | exact hOGc.ext hX1 | exact hOGc.ext hX2 | exact hOGc.ext (hX1.trans hX2) | exact hOGc.ext (hX2.trans hX1)).mono (hE0.trans hAc),
      (show Own 3 wc _ _ _ by
      repeat (refine Own.setCell_below ?_ hwc _)
      first | exact hOOc | exact hOOc.ext hX0 | exact hOOc.ext hX2 | exact hOOc.ext (hX0.trans hX2) | exact hOOc.ext (hX2.trans hX0)).mono (hE0.trans hAc),
      (show Own 3 wc _ _ _ by
      repeat (refine Own.setCell_below ?_ hwc _)
      rw[Hlo.out]
      first | exact hOTc | exact hOTc.ext hX0 | exact hOTc.ext hX1 | exact hOTc.ext (hX0.trans hX1) | exact hOTc.ext (hX1.trans hX0)).mono (hE0.trans hAc),
      (show Own 3 wc _ _ _ by
      repeat (refine Own.setCell_below ?_ hwc _)
      first | exact HOM.out.ext (hw1.trans (hX0.trans (hX1.trans hX2))) | exact HOM.out.ext (hw1.trans (hX0.trans (hX2.trans hX1))) | exact HOM.out.ext (hw1.trans (hX1.trans (hX0.trans hX2))) | exact HOM.out.ext (hw1.trans (hX1.trans (hX2.trans hX0))) | exact HOM.out.ext (hw1.trans (hX2.trans (hX0.trans hX1))) | exact HOM.out.ext (hw1.trans (hX2.trans (hX1.trans hX0)))).mono (hE0.trans hAc),
      HA.out.1.1,HA.out.1.2,HA.out.2.1.2.symm,HA.out.2.1.1,HA.out.2.2.1.symm,HA.out.2.2.2.symm⟩,
     hE0.trans (by
      repeat (refine Ext.setCell ?_ (Nat.le_refl _) _)
      first | exact hAc.trans hH0 | exact hAc.trans hH1 | exact hAc.trans hH2)⟩
end Go.Zz
namespace Go.Zz
def lowG(r:Nat):Nat→Nat→Nat
 | 0,e=>e
 | n+1,e=>if r.testBit e then lowG r n (e+1) else e
def lowZ(r:Nat):Nat:=lowG r 25 0
theorem lowG_is{r e:Nat}(h2:r.testBit e=false):∀n i,i≤e→e<i+n→(∀j,i≤j→j<e→r.testBit j=true)→lowG r n i=e:=by
 intro n
 induction n with
 | zero=>intro i h3 h4;omega
 | succ n ih =>
  intro i h3 h4 h1
  unfold lowG
  by_cases hi:i=e
  · subst hi;rw[h2];rfl
  · rw[h1 i (Nat.le_refl _) (by omega)]
    exact ih (i+1) (by omega) (by omega) fun j hj hj2=>h1 j (by omega) hj2
theorem lowZ_is{r e:Nat}(h1:∀j,j<e→r.testBit j=true)(h2:r.testBit e=false)(h3:e≤24):lowZ r=e :=
 lowG_is h2 25 0 (by omega) (by omega) fun j _ hj=>h1 j hj
theorem not_full{l:List Int}{u e:Nat}(hu:u<2 ^ ord l)(h:∀j,j<e→u.testBit j=true)(he:ord l≤e):u=fullN l:=by
 apply Nat.eq_of_testBit_eq
 intro i
 rw[fullN_bit]
 by_cases hi:i<ord l
 · rw[h i (by omega)];simp[hi]
 · rw[testBit_ge hu (by omega)];simp[hi]
def dF(l:List Int)(u x:Nat):Nat:=addF l (lowZ u) (negF l x)
theorem dF_lt{l:List Int}(h:isGrp l=true)(u x:Nat):dF l u x<ord l:=addF_lt l (isGrp_ords h) _ _
def tlS(l:List Int)(a:Nat):Nat→Nat→Nat→Nat→List Nat
 | 0,_,_,_=>[]
 | f+1,u,b,m=>if u=fullN l then [b] else
  (elems a).foldl (fun (out:List Nat) (x:Nat)=>if out.length<m∧shiftF l a (dF l u x) &&& u=0 then out++tlS l a f (u ||| shiftF l a (dF l u x)) (b ||| 2 ^ dF l u x) (m - out.length) else out) []
def tlSto(l:List Int)(a f u b m k:Nat):List Nat:=((elems a).take k).foldl (fun (out:List Nat) (x:Nat)=>if out.length<m∧shiftF l a (dF l u x) &&& u=0 then out++tlS l a f (u ||| shiftF l a (dF l u x)) (b ||| 2 ^ dF l u x) (m - out.length) else out) []
theorem tlS_full{l:List Int}{a f u b m:Nat}(h:u=fullN l):tlS l a (f+1) u b m=[b]:=by unfold tlS;rw[if_pos h]
theorem tlS_end{l:List Int}{a f u b m:Nat}(h:u≠fullN l):tlS l a (f+1) u b m=tlSto l a f u b m (elems a).length:=by
 unfold tlS tlSto;rw[if_neg h,List.take_length]
theorem elems_take{a k:Nat}(hk:k<(elems a).length):(elems a).take (k+1)=(elems a).take k++[(elems a)[k]]:=List.take_succ_eq_append_getElem hk
theorem tlSto_yes{l:List Int}{a f u b m k:Nat}(hk:k<(elems a).length)(hm:(tlSto l a f u b m k).length<m)(h:shiftF l a (dF l u (elems a)[k]) &&& u=0) :
 tlSto l a f u b m (k+1)=tlSto l a f u b m k++tlS l a f (u ||| shiftF l a (dF l u (elems a)[k])) (b ||| 2 ^ dF l u (elems a)[k]) (m - (tlSto l a f u b m k).length):=by
 unfold tlSto at hm ⊢;rw[elems_take hk,List.foldl_append];simp only[List.foldl_cons,List.foldl_nil];rw[if_pos ⟨hm,h⟩]
theorem tlSto_no{l:List Int}{a f u b m k:Nat}(hk:k<(elems a).length)(h:¬shiftF l a (dF l u (elems a)[k]) &&& u=0):tlSto l a f u b m (k+1)=tlSto l a f u b m k:=by
 unfold tlSto;rw[elems_take hk,List.foldl_append];simp only[List.foldl_cons,List.foldl_nil];rw[if_neg fun e=>h e.2]
theorem tlSto_stop{l:List Int}{a f u b m k:Nat}(hm:¬(tlSto l a f u b m k).length<m):∀d,tlSto l a f u b m (k+d)=tlSto l a f u b m k:=by
 intro d
 induction d with
 | zero=>rfl
 | succ d ih =>
  rw[←Nat.add_assoc]
  by_cases hk:k+d<(elems a).length
  · rw[←ih] at hm ⊢
    have e:tlSto l a f u b m (k+d+1)=tlSto l a f u b m (k+d):=by
     unfold tlSto at hm ⊢;rw[elems_take hk,List.foldl_append];simp only[List.foldl_cons,List.foldl_nil];rw[if_neg fun e=>hm e.1]
    rw[e]
  · rw[←ih];unfold tlSto;rw[List.take_of_length_le (by omega),List.take_of_length_le (by omega)]
theorem tlS_stop{l:List Int}{a f u b m k:Nat}(h:u≠fullN l)(hk:k≤(elems a).length)(hm:k=(elems a).length∨¬(tlSto l a f u b m k).length<m):tlS l a (f+1) u b m=tlSto l a f u b m k:=by
 rw[tlS_end h]
 rcases hm with rfl | hm
 · rfl
 · have:=tlSto_stop hm ((elems a).length - k)
   rw[show k+((elems a).length - k)=(elems a).length by omega] at this;exact this
def tlI(l:List Int)(a m:Nat):Nat→Nat→Nat→List Nat→List Nat
 | 0,_,_,out=>out
 | f+1,u,b,out=>if u=fullN l then out++[b] else
  (elems a).foldl (fun (out:List Nat) (x:Nat)=>if shiftF l a (dF l u x) &&& u=0∧out.length<m then tlI l a m f (u ||| shiftF l a (dF l u x)) (b ||| 2 ^ dF l u x) out else out) out
def tlIto(l:List Int)(a m f u b:Nat)(out:List Nat)(k:Nat):List Nat:=((elems a).take k).foldl (fun (out:List Nat) (x:Nat)=>if shiftF l a (dF l u x) &&& u=0∧out.length<m then tlI l a m f (u ||| shiftF l a (dF l u x)) (b ||| 2 ^ dF l u x) out else out) out
theorem tlI_full{l:List Int}{a m f u b:Nat}{out:List Nat}(h:u=fullN l):tlI l a m (f+1) u b out=out++[b]:=by unfold tlI;rw[if_pos h]
theorem tlI_end{l:List Int}{a m f u b:Nat}{out:List Nat}(h:u≠fullN l):tlI l a m (f+1) u b out=tlIto l a m f u b out (elems a).length:=by
 unfold tlI tlIto;rw[if_neg h,List.take_length]
theorem tlIto_yes{l:List Int}{a m f u b k:Nat}{out:List Nat}(hk:k<(elems a).length)(h:shiftF l a (dF l u (elems a)[k]) &&& u=0)(hm:(tlIto l a m f u b out k).length<m) :
 tlIto l a m f u b out (k+1)=tlI l a m f (u ||| shiftF l a (dF l u (elems a)[k])) (b ||| 2 ^ dF l u (elems a)[k]) (tlIto l a m f u b out k):=by
 unfold tlIto at hm ⊢;rw[elems_take hk,List.foldl_append];simp only[List.foldl_cons,List.foldl_nil];rw[if_pos ⟨h,hm⟩]
theorem tlIto_no{l:List Int}{a m f u b k:Nat}{out:List Nat}(hk:k<(elems a).length)(h:¬(shiftF l a (dF l u (elems a)[k]) &&& u=0∧(tlIto l a m f u b out k).length<m)) :
 tlIto l a m f u b out (k+1)=tlIto l a m f u b out k:=by
 unfold tlIto at h ⊢;rw[elems_take hk,List.foldl_append];simp only[List.foldl_cons,List.foldl_nil];rw[if_neg h]
theorem tlI_eq(l:List Int)(a m:Nat):∀f u b out,out.length<m→tlI l a m f u b out=out++tlS l a f u b (m - out.length):=by
 intro f
 induction f with
 | zero=>intro u b out _;simp[tlI,tlS]
 | succ f ih =>
  intro u b out hm
  by_cases h:u=fullN l
  · rw[tlI_full h,tlS_full h]
  · unfold tlI tlS
    rw[if_neg h,if_neg h]
    have key:∀(L:List Nat) (oS:List Nat),L.foldl (fun (out:List Nat) (x:Nat)=>if shiftF l a (dF l u x) &&& u=0∧out.length<m then tlI l a m f (u ||| shiftF l a (dF l u x)) (b ||| 2 ^ dF l u x) out else out) (out++oS) =
     out++L.foldl (fun (o:List Nat) (x:Nat)=>if o.length<m - out.length∧shiftF l a (dF l u x) &&& u=0 then o++tlS l a f (u ||| shiftF l a (dF l u x)) (b ||| 2 ^ dF l u x) (m - out.length - o.length) else o) oS:=by
     intro L
     induction L with
     | nil=>intro oS;rfl
     | cons x L ih2 =>
      intro oS
      simp only[List.foldl_cons]
      by_cases hs:shiftF l a (dF l u x) &&& u=0
      · by_cases hl:oS.length<m - out.length
        · rw[if_pos ⟨hs,by rw[List.length_append];omega⟩,if_pos ⟨hl,hs⟩,ih _ _ _ (by rw[List.length_append];omega),List.append_assoc,List.length_append,show m - (out.length+oS.length)=m - out.length - oS.length by omega]
          exact ih2 _
        · rw[if_neg (by rw[List.length_append];intro e;omega),if_neg fun e=>hl e.1]
          exact ih2 _
      · rw[if_neg fun e=>hs e.1,if_neg fun e=>hs e.2]
        exact ih2 _
    have:=key (elems a) []
    simpa using this
theorem tl_more{l:List Int}(hg:isGrp l=true){a u:Nat}(ha:a≠0)(ha2:a<2 ^ ord l)(hu:u<2 ^ ord l)(d:Nat)(h:shiftF l a d &&& u=0) :
 u ||| shiftF l a d<2 ^ ord l∧cnt u<cnt (u ||| shiftF l a d):=by
 have hs:=shiftF_lt (isGrp_ords hg) a d
 have h1:=Nat.or_lt_two_pow hu hs
 have hp:=pow_ord hg
 refine⟨h1,(sub_lt (Nat.lt_of_lt_of_le h1 hp) (fun i hi=>by rw[Nat.testBit_or,hi];rfl) fun e=>?_).2⟩
 have hc:cnt (shiftF l a d)≠0:=by
  rw[cnt_shift hg ha2]
  have:=cnt_pos (Nat.pos_of_ne_zero ha) (Nat.lt_of_lt_of_le ha2 hp);omega
 obtain⟨i,hi⟩:=bit_of_pos (cnt_ne hc)
 have h3:u.testBit i=true:=by rw[e,Nat.testBit_or,hi];simp
 have h4:(shiftF l a d &&& u).testBit i=true:=by rw[Nat.testBit_and,hi,h3];rfl
 rw[h,Nat.zero_testBit] at h4;cases h4
def tileL(l:List Int)(a m:Nat):List Nat:=tlS l a (ord l+1) a 1 m
theorem tlS_len(l:List Int)(a:Nat):∀f u b m,1≤m→(tlS l a f u b m).length≤m:=by
 intro f
 induction f with
 | zero=>intro u b m _;simp[tlS]
 | succ f ih =>
  intro u b m hm
  unfold tlS
  split
  · simpa using hm
  · have key:∀(L:List Nat) (oS:List Nat),oS.length≤m→(L.foldl (fun (o:List Nat) (x:Nat)=>if o.length<m∧shiftF l a (dF l u x) &&& u=0 then o++tlS l a f (u ||| shiftF l a (dF l u x)) (b ||| 2 ^ dF l u x) (m - o.length) else o) oS).length≤m:=by
     intro L
     induction L with
     | nil=>intro oS h;exact h
     | cons x L ih2 =>
      intro oS h
      simp only[List.foldl_cons]
      refine ih2 _ ?_
      split
      · next h3=>have:=ih (u ||| shiftF l a (dF l u x)) (b ||| 2 ^ dF l u x) (m - oS.length) (by omega);rw[List.length_append];omega
      · exact h
    exact key _ _ (by simp)
def ftB(l:List Int)(a:Int):Bool:=isOneB l a && !(tileL l a.toNat 1).isEmpty
def ftV(l:List Int)(a:Int):Int:=if ftB l a then (((tileL l a.toNat 1).headD 0:Nat):Int) else 0
theorem ft_no{l:List Int}{a:Int}(h:isOneB l a=false):ftB l a=false∧ftV l a=0:=by
 have e:ftB l a=false:=by unfold ftB;rw[h];rfl
 exact⟨e,by unfold ftV;rw[e];rfl⟩
theorem ft_nil{l:List Int}{n:Nat}(h:tileL l n 1=[]):ftB l n=false∧ftV l n=0:=by
 have e:ftB l n=false:=by unfold ftB;rw[show ((n:Int)).toNat=n from rfl,h];simp
 exact⟨e,by unfold ftV;rw[e];rfl⟩
theorem ft_yes{l:List Int}{n:Nat}(h1:isOneB l n=true){x:Nat}{L:List Nat}(h:tileL l n 1=x :: L):ftB l n=true∧ftV l n=(x:Int):=by
 have e:ftB l n=true:=by unfold ftB;rw[h1,show ((n:Int)).toNat=n from rfl,h];rfl
 exact⟨e,by unfold ftV;rw[e,show ((n:Int)).toNat=n from rfl,h];rfl⟩
end Go.Zz
namespace Go.Zz
open Go.RowKit Go.Proofs
set_option maxHeartbeats 400000
end Go.Zz
