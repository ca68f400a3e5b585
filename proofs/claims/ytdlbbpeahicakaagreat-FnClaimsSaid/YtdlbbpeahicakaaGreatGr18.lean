/- FindTile and ClaimOfTile of both. -/
import Derived.Test.YtdlbbpeahicakaaGreatGr17
import Derived.Laws.EntriesVeiled
set_option linter.unusedSimpArgs false
set_option linter.unusedVariables false
set_option linter.unnecessarySimpa false
namespace Go.Zz
open Go.RowKit Go.Proofs
set_option maxHeartbeats 2000000
set_option maxRecDepth 4000
theorem tiles_any(v:Value)(l:List Int)(a m:Nat)(w:World)(h:Ints w v l)(Hgr:Hid (isGrp l=true))(ha0:a≠0)(ha:a<2 ^ ord l)(hm1:1≤m)(hm:m≤1000) :
 Calls Tryz.prog 176 #[.agg #[v],.int .i64 a,.int .i64 m] w fun e w'=>∃v',e=.returned v'∧Own 3 w w' v' (castL (tileL l a m))∧Ext w w':=by
 have hp24:=pow_ord Hgr.out
 have ha24:a<2 ^ 24:=Nat.lt_of_lt_of_le ha hp24
 have He:Hid (tileL l a m=tlI l a m (ord l+1) a 1 []):=Lib.hid (by
  have:=tlI_eq l a m (ord l+1) a 1 [] (by simp;omega)
  rw[this];simp[tileL])
 have hca:1≤cnt a:=cnt_pos (Nat.pos_of_ne_zero ha0) ha24
 have hmf:∀(fn:Fn) (first cap:Array Value) (w:World),(Instr.makeFunc fn first cap).run Tryz.prog w=.ok (.func fn first cap) w:=fun _ _ _ _=>rfl
 have HH:=Lib.hid h
 clear h
 go_enter Tryz.func176,Tryz.ntmps176
 go_wp2_with fail
 obtain⟨w1,h1⟩:∃x,x=w.alloc (.cells #[v] 27):=⟨_,rfl⟩
 obtain⟨w2,h2⟩:∃x,x=w1.alloc (.cells #[.int .i64 (a:Int)] 3):=⟨_,rfl⟩
 obtain⟨w3,h3⟩:∃x,x=w2.alloc (.cells #[.int .i64 (m:Int)] 3):=⟨_,rfl⟩
 obtain⟨w4,h4⟩:∃x,x=w3.alloc (.cells #[] 3):=⟨_,rfl⟩
 obtain⟨w5,h5⟩:∃x,x=w4.alloc (.cells #[.slice (some ⟨w.heap.size+1+1+1,0,none⟩) 0 0] 22):=⟨_,rfl⟩
 obtain⟨w6,h6⟩:∃x,x=w5.alloc (.cells #[.func (.func 209) #[] #[.pointer (some ⟨w.heap.size,0,none⟩),.pointer (some ⟨w.heap.size+1+1+1+1,0,none⟩),.pointer (some ⟨w.heap.size+1,0,none⟩),.pointer (some ⟨w.heap.size+1+1,0,none⟩),.pointer (some ⟨w.heap.size+1+1+1+1+1,0,none⟩)]] 144):=⟨_,rfl⟩
 rw[←h1,←h2,←h3,←h4,←h5,←h6]
 have s1:w1.heap.size=w.heap.size+1:=by rw[h1];simp
 have s2:w2.heap.size=w.heap.size+1+1:=by rw[h2];simp[s1]
 have s3:w3.heap.size=w.heap.size+1+1+1:=by rw[h3];simp[s2]
 have s4:w4.heap.size=w.heap.size+1+1+1+1:=by rw[h4];simp[s3]
 have s5:w5.heap.size=w.heap.size+1+1+1+1+1:=by rw[h5];simp[s4]
 have e01:Ext w w1:=by rw[h1];exact (Ext.refl _).alloc _
 have e12:Ext w1 w2:=by rw[h2];exact (Ext.refl _).alloc _
 have e23:Ext w2 w3:=by rw[h3];exact (Ext.refl _).alloc _
 have e34:Ext w3 w4:=by rw[h4];exact (Ext.refl _).alloc _
 have e45:Ext w4 w5:=by rw[h5];exact (Ext.refl _).alloc _
 have e56:Ext w5 w6:=by rw[h6];exact (Ext.refl _).alloc _
 have B1:Blk w1 w.heap.size 27 #[v]:=by rw[h1];exact Blk.new _ _ _
 have B2:Blk w2 (w.heap.size+1) 3 #[.int .i64 (a:Int)]:=by rw[h2,←s1];exact Blk.new _ _ _
 have B3:Blk w3 (w.heap.size+1+1) 3 #[.int .i64 (m:Int)]:=by rw[h3,←s2];exact Blk.new _ _ _
 have B5:Blk w5 (w.heap.size+1+1+1+1) 22 #[.slice (some ⟨w.heap.size+1+1+1,0,none⟩) 0 0]:=by rw[h5,←s4];exact Blk.new _ _ _
 have B6:Blk w6 (w.heap.size+1+1+1+1+1) 144 #[.func (.func 209) #[] #[.pointer (some ⟨w.heap.size,0,none⟩),.pointer (some ⟨w.heap.size+1+1+1+1,0,none⟩),.pointer (some ⟨w.heap.size+1,0,none⟩),.pointer (some ⟨w.heap.size+1+1,0,none⟩),.pointer (some ⟨w.heap.size+1+1+1+1+1,0,none⟩)]]:=by rw[h6,←s5];exact Blk.new _ _ _
 have O4:Own 3 w3 w4 (.slice (some ⟨w.heap.size+1+1+1,0,none⟩) 0 0) []:=by rw[h4,←s3];exact own_made (TI:=3) (n:=0) (by omega) (Ext.refl w3) [] rfl
 have e13:=e12.trans e23
 have e36:=e34.trans (e45.trans e56)
 have e03:=e01.trans e13
 refine (tl_any v l a m Hgr ha0 ha hm w3 w.heap.size (w.heap.size+1+1+1+1) (w.heap.size+1) (w.heap.size+1+1) (w.heap.size+1+1+1+1+1) (by omega) (by omega) _ (fun W hW=>((B1.ext e13).ext hW).cell (i:=0) rfl) (fun W hW=>((B2.ext e23).ext hW).cell (i:=0) rfl) (fun W hW=>(B3.ext hW).cell (i:=0) rfl) (Lib.hid fun W hW=>HH.out.ext (e03.trans hW)) rfl (ord l+1) a 1 w6 _ [] (by omega) ha (by decide) (by simp;omega) e36 (B5.ext e56) (O4.ext (e45.trans e56)) B6).mono ?_
 rintro e w7 ⟨rfl,v7,hB7,hO7,hF7,-⟩
 rw[←He.out] at hO7
 obtain⟨a7,c7,rfl,-⟩:=hO7.shape
 have hx7:=hB7.cell (i:=0) (v:=.slice a7 (castL (tileL l a m)).length c7) rfl
 have hE7:Ext w w7:=hF7.ext (e03.trans e36) (by omega) (fun j hj=>by simp[Value.ownBlock] at hj;omega)
 go_wp2_with fail
 go_ret
 exact⟨_,rfl,hO7.mono e03,hE7⟩
theorem FindTile_any(v:Value)(l:List Int)(a:Int)(w:World)(h:Ints w v l) :
 Calls Tryz.prog 102 #[.agg #[v],.int .i64 a] w fun e w'=>e=.returned (.tuple #[.int .i64 (ftV l a),.bool (ftB l a)])∧Ext w w':=by
 obtain⟨wb,hwb⟩:∃wb,wb=w.alloc (.cells #[v] 27):=⟨_,rfl⟩
 have hE0:=(Ext.refl w).alloc (.cells #[v] 27)
 have hb:=box_cell w v 27
 rw[←hwb] at hE0 hb
 have hg:∀W,Ext wb W→Ints W v l:=fun W hW=>h.ext (hE0.trans hW)
 have hE:=Ext.refl wb
 have Hsz:Hid (w.heap.size+1=wb.heap.size):=Lib.hid (by rw[hwb];simp[go_sem])
 have Hwb:=Lib.hid hwb
 clear hwb h
 have hbx:=hb wb hE
 cases hs:isSetB l a
 · have Hs:=Lib.hid (ft_no (isOneB_no hs))
   go_enter Tryz.func102,Tryz.ntmps102
   go_wp2_with fail
   rw[←Hwb.out]
   go_wp2_with (first | (go_at_call 152;refine (IsSet_val _ _ _ _ (hg _ hE) (hs)).mono ?_;rintro e w' ⟨rfl,hE'⟩;replace hE:=hE.trans hE';clear hE'))
   exact bodyPost_ret (v:=.tuple #[.int .i64 0,.bool false]) (by simp[results,Tryz.results102,go_sem]) rfl ⟨by rw[Hs.out.1,Hs.out.2],hE0.trans hE⟩
 · obtain⟨n,rfl,hn,hn24,hgr⟩:=isSetB_nat hs
   by_cases h0:n=0
   · subst h0
     have Hs:Hid (ftB l ((0:Nat):Int)=false∧ftV l ((0:Nat):Int)=0):=Lib.hid (ft_no (isOneB_zero l))
     go_enter Tryz.func102,Tryz.ntmps102
     go_wp2_with fail
     rw[←Hwb.out]
     go_wp2_with (first | (go_at_call 152;refine (IsSet_val _ _ _ _ (hg _ hE) (hs)).mono ?_;rintro e w' ⟨rfl,hE'⟩;replace hE:=hE.trans hE';clear hE'))
     exact bodyPost_ret (v:=.tuple #[.int .i64 0,.bool false]) (by simp[results,Tryz.results102,go_sem]) rfl ⟨by rw[Hs.out.1,Hs.out.2],hE0.trans hE⟩
   · have h00:((n:Int) == 0)=false:=by rw[beq_eq_false_iff_ne];omega
     have Hgr:=Lib.hid hgr
     have hone:=isOneB_yes hs (by omega)
     have hcT:=fun W (hW:Ext wb W)=>tiles_any v l n 1 W (hg W hW) Hgr h0 hn (by omega) (by omega)
     have hlenT:(tileL l n 1).length≤1:=tlS_len _ _ _ _ _ _ (by omega)
     have Ho:=Lib.hid hone
     clear hone hgr h0
     rcases hT:tileL l n 1 with _ | ⟨x,L⟩
     · have Hs:=Lib.hid (ft_nil hT)
       rw[hT] at hcT
       clear hT hlenT
       go_enter Tryz.func102,Tryz.ntmps102
       go_wp2_with fail
       rw[←Hwb.out]
       go_wp2_with (first | (go_at_call 152;refine (IsSet_val _ _ _ _ (hg _ hE) (hs)).mono ?_;rintro e w' ⟨rfl,hE'⟩;replace hE:=hE.trans hE';clear hE') | (go_at_call 176;refine (hcT _ hE).mono ?_;rintro e w' ⟨vT,rfl,hO,hE'⟩;replace hE:=hE.trans hE';clear hE';obtain⟨aT,cT,rfl,-⟩:=hO.shape;simp only[castL,List.map_nil,List.length_nil] at hO ⊢))
       exact bodyPost_ret (v:=.tuple #[.int .i64 0,.bool false]) (by simp[results,Tryz.results102,go_sem]) rfl ⟨by rw[Hs.out.1,Hs.out.2],hE0.trans hE⟩
     · rw[hT] at hlenT
       have hL:L=[]:=List.eq_nil_of_length_eq_zero (by simp at hlenT;simpa using hlenT)
       subst hL
       have Hs:=Lib.hid (ft_yes Ho.out hT)
       rw[hT] at hcT
       clear hT hlenT
       go_enter Tryz.func102,Tryz.ntmps102
       go_wp2_with fail
       rw[←Hwb.out]
       go_wp2_with (first | (go_at_call 152;refine (IsSet_val _ _ _ _ (hg _ hE) (hs)).mono ?_;rintro e w' ⟨rfl,hE'⟩;replace hE:=hE.trans hE';clear hE') | (go_at_call 176;refine (hcT _ hE).mono ?_;rintro e w' ⟨vT,rfl,hO,hE'⟩;replace hE:=hE.trans hE';clear hE';obtain⟨ao,c,adr,rfl,hlen,hadr,hcell⟩:=hO.ints.op;have hix:∀W,(Instr.indexAt 22 (.slice ao 1 c) (.int .i64 0)).run Tryz.prog W=.ok (.pointer (some (adr 0))) W:=fun W=>ints_index (c:=c) (n:=(castL [x]).length) elI szI hadr 0 W (by simp[castL]);have hck:w'.cell? (adr 0)=some (.int .i64 (x:Int)):=hcell 0 w' (by simp[castL]) (Ext.refl _);clear hlen hadr hcell;rw[show (castL [x]).length=1 from rfl] at hO ⊢))
       exact bodyPost_ret (v:=.tuple #[.int .i64 x,.bool true]) (by simp[results,Tryz.results102,go_sem]) rfl ⟨by rw[Hs.out.1,Hs.out.2],hE0.trans hE⟩
end Go.Zz
namespace Go.Zz
open Go.RowKit Go.Proofs
set_option maxHeartbeats 2000000
set_option maxRecDepth 4000
theorem sFindTile_any(v:Value)(l:List Int)(a:Int)(w:World)(h:Ints w v l) :
 Calls Tryz.prog 103 #[.agg #[v],.int .i64 a] w fun e w'=>e=.returned (.tuple #[.int .i64 (ftV l a),.bool (ftB l a)])∧Ext w w':=by
 obtain⟨wb,hwb⟩:∃wb,wb=w.alloc (.cells #[v] 27):=⟨_,rfl⟩
 have hE0:=(Ext.refl w).alloc (.cells #[v] 27)
 have hb:=box_cell w v 27
 rw[←hwb] at hE0 hb
 have hg:∀W,Ext wb W→Ints W v l:=fun W hW=>h.ext (hE0.trans hW)
 have hE:=Ext.refl wb
 have Hsz:Hid (w.heap.size+1=wb.heap.size):=Lib.hid (by rw[hwb];simp[go_sem])
 have Hwb:=Lib.hid hwb
 clear hwb h
 have hbx:=hb wb hE
 cases hs:isSetB l a
 · have Hs:=Lib.hid (ft_no (isOneB_no hs))
   go_enter Tryz.func103,Tryz.ntmps103
   go_wp2_with fail
   rw[←Hwb.out]
   go_wp2_with (first | (go_at_call 126;refine (sIsSet_val _ _ _ _ (hg _ hE) (hs)).mono ?_;rintro e w' ⟨rfl,hE'⟩;replace hE:=hE.trans hE';clear hE'))
   exact bodyPost_ret (v:=.tuple #[.int .i64 0,.bool false]) (by simp[results,Tryz.results103,go_sem]) rfl ⟨by rw[Hs.out.1,Hs.out.2],hE0.trans hE⟩
 · obtain⟨n,rfl,hn,hn24,hgr⟩:=isSetB_nat hs
   by_cases h0:n=0
   · subst h0
     have Hs:Hid (ftB l ((0:Nat):Int)=false∧ftV l ((0:Nat):Int)=0):=Lib.hid (ft_no (isOneB_zero l))
     go_enter Tryz.func103,Tryz.ntmps103
     go_wp2_with fail
     rw[←Hwb.out]
     go_wp2_with (first | (go_at_call 126;refine (sIsSet_val _ _ _ _ (hg _ hE) (hs)).mono ?_;rintro e w' ⟨rfl,hE'⟩;replace hE:=hE.trans hE';clear hE'))
     exact bodyPost_ret (v:=.tuple #[.int .i64 0,.bool false]) (by simp[results,Tryz.results103,go_sem]) rfl ⟨by rw[Hs.out.1,Hs.out.2],hE0.trans hE⟩
   · have h00:((n:Int) == 0)=false:=by rw[beq_eq_false_iff_ne];omega
     have Hgr:=Lib.hid hgr
     have hone:=isOneB_yes hs (by omega)
     have hca:1≤cnt n:=cnt_pos (by omega) hn24
     have hob:=ord_bd hgr
     have hcT:∀W,Ext wb W→Calls Tryz.prog 177 #[.agg #[v],.int .i64 n,.int .i64 (fullN l:Nat),.int .i64 n,.int .i64 1,.int .i64 1] W fun e w'=>∃v',e=.returned v'∧Own 3 W w' v' (castL (tileL l n 1))∧Ext W w':=fun W hW =>
      sSearch_any v l n Hgr h0 hn (ord l+1) n 1 1 W (hg W hW) (by omega) hn (by decide) (by omega) (by omega)
     have hlenT:(tileL l n 1).length≤1:=tlS_len _ _ _ _ _ _ (by omega)
     have Ho:=Lib.hid hone
     have hs1:=ishl_one (n:=ord l) (by omega)
     have hpw:=pw_le (n:=ord l) hob.2
     have hpw1:=pw_pos (ord l)
     have hwr:IntKind.i64.wrap (((pw (ord l):Nat):Int) - 1)=((fullN l:Nat):Int):=by
      rw[show (((pw (ord l):Nat):Int) - 1)=((fullN l:Nat):Int) by unfold fullN;omega]
      apply IntWalk.i64_in;unfold fullN;omega
     clear hone hgr h0 hca
     rcases hT:tileL l n 1 with _ | ⟨x,L⟩
     · have Hs:=Lib.hid (ft_nil hT)
       rw[hT] at hcT
       clear hT hlenT
       go_enter Tryz.func103,Tryz.ntmps103
       go_wp2_with fail
       rw[←Hwb.out]
       refine (sIsSet_val _ _ _ _ (hg _ hE) hs).mono ?_
       rintro e w1 ⟨rfl,hE1⟩
       have hb':=fun W (hW:Ext w1 W)=>hb W (hE1.trans hW)
       go_wp2_with fail
       have hD:=(Ext.refl (w1)).drew
       first | (go_region_held3 (fun W=>Ext (w1) W∧W.cell? ⟨w.heap.size,0,none⟩=some v) (exact⟨(by repeat (first | assumption | exact Ext.refl _ | (apply And.left;assumption) | apply Ext.drew | apply Ext.alloc)),hb' _ (by repeat (first | assumption | exact Ext.refl _ | (apply And.left;assumption) | apply Ext.drew | apply Ext.alloc))⟩) (first | (go_at_call 59;((with_reducible refine Calls.mono (l2Order_any _ _ _ (hg _ (hE1.trans (by repeat (first | assumption | exact Ext.refl _ | (apply And.left;assumption) | apply Ext.drew | apply Ext.alloc)))) Hgr) ?_);rintro e wH0 ⟨rfl,hX0⟩;have hH0:=Ext.trans (a:=w1) (by repeat (first | assumption | exact Ext.refl _ | (apply And.left;assumption) | apply Ext.drew | apply Ext.alloc)) hX0)) | (go_at_call 177;((with_reducible refine Calls.mono (hcT _ (hE1.trans (by repeat (first | assumption | exact Ext.refl _ | (apply And.left;assumption) | apply Ext.drew | apply Ext.alloc)))) ?_);rintro e wH1 ⟨vT,rfl,hO,hX1⟩;have hH1:=Ext.trans (a:=w1) (by repeat (first | assumption | exact Ext.refl _ | (apply And.left;assumption) | apply Ext.drew | apply Ext.alloc)) hX1)))) | (fail "the region with calls")
       obtain⟨aT,cT,rfl,-⟩:=hO.shape
       rw[show (castL []).length=0 from rfl] at hO ⊢
       go_wp2_with fail
       exact bodyPost_ret (v:=.tuple #[.int .i64 0,.bool false]) (by simp[results,Tryz.results103,go_sem]) rfl ⟨by rw[Hs.out.1,Hs.out.2],hE0.trans (hE1.trans (by repeat (first | assumption | exact Ext.refl _ | (apply And.left;assumption) | apply Ext.drew | apply Ext.alloc)))⟩
     · rw[hT] at hlenT
       have hL:L=[]:=List.eq_nil_of_length_eq_zero (by simp at hlenT;simpa using hlenT)
       subst hL
       have Hs:=Lib.hid (ft_yes Ho.out hT)
       rw[hT] at hcT
       clear hT hlenT
       go_enter Tryz.func103,Tryz.ntmps103
       go_wp2_with fail
       rw[←Hwb.out]
       refine (sIsSet_val _ _ _ _ (hg _ hE) hs).mono ?_
       rintro e w1 ⟨rfl,hE1⟩
       have hb':=fun W (hW:Ext w1 W)=>hb W (hE1.trans hW)
       go_wp2_with fail
       have hD:=(Ext.refl (w1)).drew
       first | (go_region_held3 (fun W=>Ext (w1) W∧W.cell? ⟨w.heap.size,0,none⟩=some v) (exact⟨(by repeat (first | assumption | exact Ext.refl _ | (apply And.left;assumption) | apply Ext.drew | apply Ext.alloc)),hb' _ (by repeat (first | assumption | exact Ext.refl _ | (apply And.left;assumption) | apply Ext.drew | apply Ext.alloc))⟩) (first | (go_at_call 59;((with_reducible refine Calls.mono (l2Order_any _ _ _ (hg _ (hE1.trans (by repeat (first | assumption | exact Ext.refl _ | (apply And.left;assumption) | apply Ext.drew | apply Ext.alloc)))) Hgr) ?_);rintro e wH0 ⟨rfl,hX0⟩;have hH0:=Ext.trans (a:=w1) (by repeat (first | assumption | exact Ext.refl _ | (apply And.left;assumption) | apply Ext.drew | apply Ext.alloc)) hX0)) | (go_at_call 177;((with_reducible refine Calls.mono (hcT _ (hE1.trans (by repeat (first | assumption | exact Ext.refl _ | (apply And.left;assumption) | apply Ext.drew | apply Ext.alloc)))) ?_);rintro e wH1 ⟨vT,rfl,hO,hX1⟩;have hH1:=Ext.trans (a:=w1) (by repeat (first | assumption | exact Ext.refl _ | (apply And.left;assumption) | apply Ext.drew | apply Ext.alloc)) hX1)))) | (fail "the region with calls")
       obtain⟨ao,c,adr,rfl,hlen,hadr,hcell⟩:=hO.ints.op
       have hix:∀W,(Instr.indexAt 22 (.slice ao 1 c) (.int .i64 0)).run Tryz.prog W=.ok (.pointer (some (adr 0))) W:=fun W=>ints_index (c:=c) (n:=(castL [x]).length) elI szI hadr 0 W (by simp[castL])
       have hck:wH1.cell? (adr 0)=some (.int .i64 (x:Int)):=hcell 0 wH1 (by simp[castL]) (Ext.refl _)
       clear hlen hadr hcell
       rw[show (castL [x]).length=1 from rfl] at hO ⊢
       go_wp2_with fail
       exact bodyPost_ret (v:=.tuple #[.int .i64 x,.bool true]) (by simp[results,Tryz.results103,go_sem]) rfl ⟨by rw[Hs.out.1,Hs.out.2],hE0.trans (hE1.trans (by repeat (first | assumption | exact Ext.refl _ | (apply And.left;assumption) | apply Ext.drew | apply Ext.alloc)))⟩
theorem ClaimOfTile_any(v:Value)(l:List Int)(a:Int)(w:World)(h:Ints w v l) :
 Calls Tryz.prog 23 #[.agg #[v],.int .i64 a] w fun e w'=>∃v1 v2 v3 v4,e=.returned (.tuple #[CV (if ftB l a then 4 else 0) v1 v2 (if ftB l a then a else 0) (ftV l a) 0 0 v3 v4 0,.bool (ftB l a)])∧Own4 w w' v1 v2 v3 v4 (if ftB l a then l else []) [] [] []∧Ext w w':=by
 obtain⟨wb,hwb⟩:∃wb,wb=w.alloc (.cells #[v] 27):=⟨_,rfl⟩
 have hE0:=(Ext.refl w).alloc (.cells #[v] 27)
 have hb:=box_cell w v 27
 rw[←hwb] at hE0 hb
 have hg:∀W,Ext wb W→Ints W v l:=fun W hW=>h.ext (hE0.trans hW)
 have hE:=Ext.refl wb
 have Hsz:Hid (w.heap.size+1=wb.heap.size):=Lib.hid (by rw[hwb];simp[go_sem])
 have Hwb:=Lib.hid hwb
 clear hwb h
 obtain⟨wc,hwc⟩:∃wc,wc=wb.alloc (.cells #[.int .i64 0,.slice none 0 0,.slice none 0 0,.int .i64 0,.int .i64 0,.int .i64 0,.int .i64 0,.slice none 0 0,.slice none 0 0,.int .i64 0] 38):=⟨_,rfl⟩
 have hBc:Blk wc wb.heap.size 38 #[.int .i64 0,.slice none 0 0,.slice none 0 0,.int .i64 0,.int .i64 0,.int .i64 0,.int .i64 0,.slice none 0 0,.slice none 0 0,.int .i64 0]:=by rw[hwc];exact Blk.new _ _ _
 have hRc:Res wc wb.heap.size 10:=hBc.res (by simp)
 have hAc:Ext wb wc:=by rw[hwc];exact hE.alloc _
 replace hE:=Ext.refl wc
 have Hsz2:Hid (wb.heap.size+1=wc.heap.size):=Lib.hid (by rw[hwc];simp[go_sem])
 have Hwc:=Lib.hid hwc
 clear hwc hBc
 have hgc:∀W,Ext wc W→Ints W v l:=fun W hW=>hg W (hAc.trans hW)
 have hbc:∀W,Ext wc W→W.cell? ⟨w.heap.size,0,none⟩=some v:=fun W hW=>hb W (hAc.trans hW)
 have hwc:wb.heap.size<wc.heap.size:=by have:=Hsz2.out;omega
 have hF0:ftB l a=false→ftV l a=0:=fun e=>by unfold ftV;rw[e];rfl
 cases hs:ftB l a
 · have Hs:=Lib.hid (hF0 hs)
   go_enter Tryz.func23,Tryz.ntmps23
   go_wp2_with fail
   rw[←Hwb.out,←Hwc.out];rw[Hsz.out]
   refine (FindTile_any _ _ _ _ (hgc _ hE)).mono ?_
   rw[Hs.out,hs]
   rintro e w1 ⟨rfl,hE1⟩
   have hr:=hRc.ext hE1
   unfold Res at hr
   go_wp2_with fail
   exact bodyPost_ret (v:=.tuple #[CV 0 (.slice none 0 0) (.slice none 0 0) 0 0 0 0 (.slice none 0 0) (.slice none 0 0) 0,.bool false]) (by simp[results,Tryz.results23,go_sem,hr,CV]) rfl ⟨_,_,_,_,by simp,⟨Own.nil _ _ _,Own.nil _ _ _,Own.nil _ _ _,Own.nil _ _ _,Apart.nil_left _,Apart.nil_left _,Apart.nil_left _,Apart.nil_left _,Apart.nil_left _,Apart.nil_left _⟩,hE0.trans (by (repeat (refine Ext.setCell ?_ (Nat.le_refl _) _));exact hAc.trans hE1)⟩
 · go_enter Tryz.func23,Tryz.ntmps23
   go_wp2_with fail
   rw[←Hwb.out,←Hwc.out];rw[Hsz.out]
   refine (FindTile_any _ _ _ _ (hgc _ hE)).mono ?_
   rw[hs]
   rintro e w1 ⟨rfl,hE1⟩
   have kb:=hbc _ hE1
   go_wp2_with fail
   refine (copyGroup_any _ _ _ (hgc _ hE1)).mono ?_
   rintro e w2 ⟨ao,c,rfl,hO,hE2⟩
   have hr:=hRc.ext (hE1.trans hE2)
   unfold Res at hr
   have hw1:wb.heap.size<w1.heap.size:=Nat.lt_of_lt_of_le hwc hE1.size
   go_wp2_with fail
   exact bodyPost_ret (v:=.tuple #[CV 4 (.slice ao l.length c) (.slice none 0 0) a (ftV l a) 0 0 (.slice none 0 0) (.slice none 0 0) 0,.bool true]) (by simp[results,Tryz.results23,go_sem,hr,CV]) rfl ⟨_,_,_,_,by simp;rfl,⟨(show Own 3 w1 _ _ _ by (repeat (refine Own.setCell_below ?_ hw1 _));exact hO).mono (hE0.trans (hAc.trans hE1)),Own.nil _ _ _,Own.nil _ _ _,Own.nil _ _ _,Apart.nil_right _,Apart.nil_right _,Apart.nil_right _,Apart.nil_left _,Apart.nil_left _,Apart.nil_left _⟩,hE0.trans (by (repeat (refine Ext.setCell ?_ (Nat.le_refl _) _));exact hAc.trans (hE1.trans hE2))⟩
theorem sClaimOfTile_any(v:Value)(l:List Int)(a:Int)(w:World)(h:Ints w v l) :
 Calls Tryz.prog 24 #[.agg #[v],.int .i64 a] w fun e w'=>∃v1 v2 v3 v4,e=.returned (.tuple #[CV (if ftB l a then 4 else 0) v1 v2 (if ftB l a then a else 0) (ftV l a) 0 0 v3 v4 0,.bool (ftB l a)])∧Own4 w w' v1 v2 v3 v4 (if ftB l a then l else []) [] [] []∧Ext w w':=by
 obtain⟨wb,hwb⟩:∃wb,wb=w.alloc (.cells #[v] 27):=⟨_,rfl⟩
 have hE0:=(Ext.refl w).alloc (.cells #[v] 27)
 have hb:=box_cell w v 27
 rw[←hwb] at hE0 hb
 have hg:∀W,Ext wb W→Ints W v l:=fun W hW=>h.ext (hE0.trans hW)
 have hE:=Ext.refl wb
 have Hsz:Hid (w.heap.size+1=wb.heap.size):=Lib.hid (by rw[hwb];simp[go_sem])
 have Hwb:=Lib.hid hwb
 clear hwb h
 obtain⟨wc,hwc⟩:∃wc,wc=wb.alloc (.cells #[.int .i64 0,.slice none 0 0,.slice none 0 0,.int .i64 0,.int .i64 0,.int .i64 0,.int .i64 0,.slice none 0 0,.slice none 0 0,.int .i64 0] 38):=⟨_,rfl⟩
 have hBc:Blk wc wb.heap.size 38 #[.int .i64 0,.slice none 0 0,.slice none 0 0,.int .i64 0,.int .i64 0,.int .i64 0,.int .i64 0,.slice none 0 0,.slice none 0 0,.int .i64 0]:=by rw[hwc];exact Blk.new _ _ _
 have hRc:Res wc wb.heap.size 10:=hBc.res (by simp)
 have hAc:Ext wb wc:=by rw[hwc];exact hE.alloc _
 replace hE:=Ext.refl wc
 have Hsz2:Hid (wb.heap.size+1=wc.heap.size):=Lib.hid (by rw[hwc];simp[go_sem])
 have Hwc:=Lib.hid hwc
 clear hwc hBc
 have hgc:∀W,Ext wc W→Ints W v l:=fun W hW=>hg W (hAc.trans hW)
 have hbc:∀W,Ext wc W→W.cell? ⟨w.heap.size,0,none⟩=some v:=fun W hW=>hb W (hAc.trans hW)
 have hwc:wb.heap.size<wc.heap.size:=by have:=Hsz2.out;omega
 have hF0:ftB l a=false→ftV l a=0:=fun e=>by unfold ftV;rw[e];rfl
 cases hs:ftB l a
 · have Hs:=Lib.hid (hF0 hs)
   go_enter Tryz.func24,Tryz.ntmps24
   go_wp2_with fail
   rw[←Hwb.out,←Hwc.out];rw[Hsz.out]
   refine (sFindTile_any _ _ _ _ (hgc _ hE)).mono ?_
   rw[Hs.out,hs]
   rintro e w1 ⟨rfl,hE1⟩
   have hr:=hRc.ext hE1
   unfold Res at hr
   go_wp2_with fail
   exact bodyPost_ret (v:=.tuple #[CV 0 (.slice none 0 0) (.slice none 0 0) 0 0 0 0 (.slice none 0 0) (.slice none 0 0) 0,.bool false]) (by simp[results,Tryz.results24,go_sem,hr,CV]) rfl ⟨_,_,_,_,by simp,⟨Own.nil _ _ _,Own.nil _ _ _,Own.nil _ _ _,Own.nil _ _ _,Apart.nil_left _,Apart.nil_left _,Apart.nil_left _,Apart.nil_left _,Apart.nil_left _,Apart.nil_left _⟩,hE0.trans (by (repeat (refine Ext.setCell ?_ (Nat.le_refl _) _));exact hAc.trans hE1)⟩
 · go_enter Tryz.func24,Tryz.ntmps24
   go_wp2_with fail
   rw[←Hwb.out,←Hwc.out];rw[Hsz.out]
   refine (sFindTile_any _ _ _ _ (hgc _ hE)).mono ?_
   rw[hs]
   rintro e w1 ⟨rfl,hE1⟩
   have kb:=hbc _ hE1
   go_wp2_with fail
   refine (l33Group_any _ _ _ (hgc _ hE1)).mono ?_
   rintro e w2 ⟨ao,c,rfl,hO,hE2⟩
   have hr:=hRc.ext (hE1.trans hE2)
   unfold Res at hr
   have hw1:wb.heap.size<w1.heap.size:=Nat.lt_of_lt_of_le hwc hE1.size
   go_wp2_with fail
   exact bodyPost_ret (v:=.tuple #[CV 4 (.slice ao l.length c) (.slice none 0 0) a (ftV l a) 0 0 (.slice none 0 0) (.slice none 0 0) 0,.bool true]) (by simp[results,Tryz.results24,go_sem,hr,CV]) rfl ⟨_,_,_,_,by simp;rfl,⟨(show Own 3 w1 _ _ _ by (repeat (refine Own.setCell_below ?_ hw1 _));exact hO).mono (hE0.trans (hAc.trans hE1)),Own.nil _ _ _,Own.nil _ _ _,Own.nil _ _ _,Apart.nil_right _,Apart.nil_right _,Apart.nil_right _,Apart.nil_left _,Apart.nil_left _,Apart.nil_left _⟩,hE0.trans (by (repeat (refine Ext.setCell ?_ (Nat.le_refl _) _));exact hAc.trans (hE1.trans hE2))⟩
end Go.Zz
