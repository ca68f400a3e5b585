/- Colorings: triples of Schur, IsColoring, IsSchurColoring of both. -/
import Derived.Test.YtdlbbpeahicakaaGreatGr2
import Derived.Test.YtdlbbpeahicakaaGreatGr10
import Derived.Test.YtdlbbpeahicakaaGreatGr7
import Derived.Test.YtdlbbpeahicakaaGreatGr5
import Derived.Test.YtdlbbpeahicakaaGreatGr6
import Derived.Test.YtdlbbpeahicakaaGreatGr8
import Derived.Test.YtdlbbpeahicakaaGreatGr9
namespace Go.Zz
open Go.RowKit Go.Proofs
set_option maxHeartbeats 1000000
set_option maxRecDepth 4000
def eq3(c:List Int)(z x:Nat):Bool:=(nth c (x - 1) == nth c (z - 1))&&(nth c (z - x - 1) == nth c (z - 1))
def rowZ(c:List Int)(z:Nat):Bool:=(List.range (z+1)).any fun x=>decide (1≤x∧2*x≤z)&&eq3 c z x
def stB(c:List Int):Bool:=decide (c.length≤40)&&(List.range (c.length+1)).any fun z=>decide (2≤z)&&rowZ c z
theorem eq3_no1{c:List Int}{z x:Nat}(h:(nth c (x - 1) == nth c (z - 1))=false):eq3 c z x=false:=by unfold eq3;rw[h];rfl
theorem eq3_yes1{c:List Int}{z x:Nat}(h:(nth c (x - 1) == nth c (z - 1))=true):eq3 c z x=(nth c (z - x - 1) == nth c (z - 1)):=by unfold eq3;rw[h];rfl
theorem rowZ_no{c:List Int}{z n:Nat}(hn:z<2*n)(h:∀x,1≤x→x<n→eq3 c z x=false):rowZ c z=false:=by
 unfold rowZ;rw[List.any_eq_false]
 intro x _
 by_cases h2:1≤x∧2*x≤z
 · rw[h x h2.1 (by omega)];simp
 · simp[h2]
theorem stB_yes{c:List Int}{z x:Nat}(hc:c.length≤40)(hz:2≤z)(hz2:z≤c.length)(hx:1≤x)(hx2:2*x≤z)(h:eq3 c z x=true):stB c=true:=by
 unfold stB
 rw[decide_eq_true hc,Bool.true_and,List.any_eq_true]
 refine⟨z,List.mem_range.2 (by omega),?_⟩
 rw[decide_eq_true hz,Bool.true_and]
 unfold rowZ
 rw[List.any_eq_true]
 exact⟨x,List.mem_range.2 (by omega),by rw[h,decide_eq_true ⟨hx,hx2⟩];rfl⟩
theorem stB_no{c:List Int}{n:Nat}(hn:c.length<n)(h:∀z,2≤z→z<n→rowZ c z=false):stB c=false:=by
 unfold stB
 rw[Bool.and_eq_false_iff];right
 rw[List.any_eq_false]
 intro z hz
 rw[List.mem_range] at hz
 by_cases h2:2≤z
 · rw[h z h2 (by omega)];simp
 · simp[h2]
theorem stB_long{c:List Int}(h:¬c.length≤40):stB c=false:=by unfold stB;rw[decide_eq_false h];rfl
def icB(c:List Int)(k:Int):Bool:=inB k 1 4&&(decide (c.length≤40)&&c.all fun x=>inB x 0 (k - 1))
def iscB(c:List Int)(k:Int):Bool:=icB c k && !stB c
theorem SchurTriple_any(v:Value)(c:List Int)(w:World)(h:Ints w v c) :
 Calls Tryz.prog 171 #[v] w fun e w'=>TB (stB c) e∧Ext w w':=by
 obtain⟨ao,k,adr,rfl,hlen,hadr,hcell⟩:=h.op
 have hix:=ints_index (c:=k) elI szI hadr
 clear hadr h
 by_cases hlg:c.length≤40
 rotate_left
 · have Hs:=Lib.hid (stB_long hlg)
   have hgt:¬((c.length:Int)≤40):=by omega
   have hgt2:(40:Int)<(c.length:Int):=by omega
   clear hlg hix hcell
   go_enter Tryz.func171,Tryz.ntmps171
   go_wp2_with fail
   rw[Hs.out];exact bodyPost_ret (v:=.tuple #[.slice (some ⟨w.heap.size,0,none⟩) 0 0,.bool false]) (by simp[results,Tryz.results171,go_sem]) rfl ⟨TB.mk _ _,(Ext.refl _).alloc _⟩
 have hle:(c.length:Int)≤40:=by omega
 have hle2:¬((40:Int)<(c.length:Int)):=by omega
 go_enter Tryz.func171,Tryz.ntmps171
 go_wp2_with fail
 go_loopw [4] (fun zv wr=>∃z:Nat,2≤z∧zv=.int .i64 z∧z≤c.length+2∧Hid (∀z',2≤z'→z'<z→rowZ c z'=false)∧Ext w wr) (fun zv _=>c.length+2 - (intOf zv).toNat)
 case atStart=>exact⟨2,by omega,rfl,by omega,Lib.hid (by omega),Ext.refl _⟩
 case round =>
  obtain⟨z,hz,rfl,hzb,H,hE⟩:=hrel
  by_cases hlt:z≤c.length
  · have hltI:(z:Int)≤(c.length:Int):=by omega
    go_wp2_with fail
    rename World=>wz
    go_loopw [5] (fun xv wr=>∃x:Nat,1≤x∧2*x≤z+2∧xv=.int .i64 x∧Hid (∀x',1≤x'→x'<x→eq3 c z x'=false)∧Ext w wr) (fun xv _=>z+2 - (intOf xv).toNat)
    case atStart=>exact⟨1,by omega,by omega,rfl,Lib.hid (by omega),hE⟩
    case round =>
     clear hE
     obtain⟨x,hx1,hx2,rfl,Hall,hE⟩:=hrel
     by_cases hlx:2*x≤z
     · have hc1:=fun U=>hcell (x - 1) _ (by omega) (lat_ext w U)
       have hc2:=fun U=>hcell (z - 1) _ (by omega) (lat_ext w U)
       have hc3:=fun U=>hcell (z - x - 1) _ (by omega) (lat_ext w U)
       have ix1:∀W,(Instr.indexAt 22 (.slice ao c.length k) (.int .i64 ((x:Int) - 1))).run Tryz.prog W=.ok (.pointer (some (adr (x - 1)))) W:=fun W=>by rw[show ((x:Int) - 1)=((x - 1:Nat):Int) by omega];exact hix _ W (by omega)
       have ix2:∀W,(Instr.indexAt 22 (.slice ao c.length k) (.int .i64 ((z:Int) - 1))).run Tryz.prog W=.ok (.pointer (some (adr (z - 1)))) W:=fun W=>by rw[show ((z:Int) - 1)=((z - 1:Nat):Int) by omega];exact hix _ W (by omega)
       have ix3:∀W,(Instr.indexAt 22 (.slice ao c.length k) (.int .i64 ((z:Int) - (x:Int) - 1))).run Tryz.prog W=.ok (.pointer (some (adr (z - x - 1)))) W:=fun W=>by rw[show ((z:Int) - (x:Int) - 1)=((z - x - 1:Nat):Int) by omega];exact hix _ W (by omega)
       have hg1:(1:Int)≤(z:Int) - (x:Int):=by omega
       have hg3:(2:Int)*(x:Int)≤(z:Int):=by omega
       clear hix hcell
       cases e1:(nth c (x - 1) == nth c (z - 1))
       · have He:=Lib.hid (eq3_no1 e1)
         go_wp2_with fail
         (refine wp_region_lat (w) (by kernel_rfl) (by kernel_rfl) hE ?_);(repeat (go_big_quiet_step (first | fail)));(refine wpQuiet_nil ?_);(intro W hE');(replace hE:=lat_of hE');(clear hE')
         go_wp2_with fail
         go_roundw
         case rel=>exact⟨x+1,by omega,by omega,by go_num,Lib.hid fun y hy1 hy2=>by by_cases e:y=x;(subst e;exact He.out);exact Hall.out y hy1 (by omega),hE⟩
         case measure=>(simp[intOf];omega)
       · cases e2:(nth c (z - x - 1) == nth c (z - 1))
         · have He:=Lib.hid ((eq3_yes1 e1).trans e2)
           go_wp2_with fail
           (refine wp_region_lat (w) (by kernel_rfl) (by kernel_rfl) hE ?_);(repeat (go_big_quiet_step (first | fail)));(refine wpQuiet_nil ?_);(intro W hE');(replace hE:=lat_of hE');(clear hE')
           go_wp2_with fail
           go_roundw
           case rel=>exact⟨x+1,by omega,by omega,by go_num,Lib.hid fun y hy1 hy2=>by by_cases e:y=x;(subst e;exact He.out);exact Hall.out y hy1 (by omega),hE⟩
           case measure=>(simp[intOf];omega)
         · have He:=Lib.hid (stB_yes hlg hz hlt hx1 hlx ((eq3_yes1 e1).trans e2))
           go_wp2_with fail
           (refine wp_region_lat (w) (by kernel_rfl) (by kernel_rfl) hE ?_);(repeat (go_big_quiet_step (first | fail)));(refine wpQuiet_nil ?_);(intro W hE');(replace hE:=lat_of hE');(clear hE')
           go_wp2_with fail
           rw[He.out]
           exact bodyPost_ret (v:=.tuple #[.slice (some ⟨W.heap.size,0,none⟩) 3 3,.bool true]) (by simp[results,Tryz.results171,go_sem]) rfl ⟨TB.mk _ _,hE.alloc _⟩
     · have Hrow:Hid (rowZ c z=false):=Lib.hid (rowZ_no (n:=x) (by omega) Hall.out)
       have hnl:¬((2:Int)*(x:Int)≤(z:Int)):=by omega
       go_wp2_with fail
       go_roundw
       case rel=>exact⟨z+1,by omega,by go_num,by omega,Lib.hid fun y hy1 hy2=>by by_cases e:y=z;(subst e;exact Hrow.out);exact H.out y hy1 (by omega),hE⟩
       case measure=>(simp[intOf];omega)
  · have Hs:=Lib.hid (stB_no (n:=z) (by omega) H.out)
    have hnl:¬((z:Int)≤(c.length:Int)):=by omega
    go_wp2_with fail
    rw[Hs.out]
    exact bodyPost_ret (v:=.tuple #[.slice (some ⟨wr.heap.size,0,none⟩) 0 0,.bool false]) (by simp[results,Tryz.results171,go_sem]) rfl ⟨TB.mk _ _,hE.alloc _⟩
theorem sSchurTriple_any(v:Value)(c:List Int)(w:World)(h:Ints w v c) :
 Calls Tryz.prog 42 #[v] w fun e w'=>TB (stB c) e∧Ext w w':=by
 obtain⟨ao,k,adr,rfl,hlen,hadr,hcell⟩:=h.op
 have hix:=ints_index (c:=k) elI szI hadr
 clear hadr h
 by_cases hlg:c.length≤40
 rotate_left
 · have Hs:=Lib.hid (stB_long hlg)
   have hgt:¬((c.length:Int)≤40):=by omega
   have hgt2:(40:Int)<(c.length:Int):=by omega
   clear hlg hix hcell
   go_enter Tryz.func42,Tryz.ntmps42
   go_wp2_with fail
   (go_loopw [4] (fun zv wr=>zv=.int .i64 2∧Ext w wr) (fun _ _=>0);(case atStart=>exact⟨rfl,Ext.refl _⟩);(case round=>(obtain⟨rfl,hE⟩:=hrel;go_wp2_with fail;rw[Hs.out];exact bodyPost_ret (v:=.tuple #[.slice (some ⟨wr.heap.size,0,none⟩) 0 0,.bool false]) (by simp[results,Tryz.results42,go_sem]) rfl ⟨TB.mk _ _,hE.alloc _⟩)))
 have hle:(c.length:Int)≤40:=by omega
 have hle2:¬((40:Int)<(c.length:Int)):=by omega
 go_enter Tryz.func42,Tryz.ntmps42
 go_wp2_with fail
 go_loopw [4] (fun zv wr=>∃z:Nat,2≤z∧zv=.int .i64 z∧z≤c.length+2∧Hid (∀z',2≤z'→z'<z→rowZ c z'=false)∧Ext w wr) (fun zv _=>c.length+2 - (intOf zv).toNat)
 case atStart=>exact⟨2,by omega,rfl,by omega,Lib.hid (by omega),Ext.refl _⟩
 case round =>
  obtain⟨z,hz,rfl,hzb,H,hE⟩:=hrel
  by_cases hlt:z≤c.length
  · have hltI:(z:Int)≤(c.length:Int):=by omega
    go_wp2_with fail
    rename World=>wz
    go_loopw [5] (fun xv wr=>∃x:Nat,1≤x∧2*x≤z+2∧xv=.int .i64 x∧Hid (∀x',1≤x'→x'<x→eq3 c z x'=false)∧Ext w wr) (fun xv _=>z+2 - (intOf xv).toNat)
    case atStart=>exact⟨1,by omega,by omega,rfl,Lib.hid (by omega),hE⟩
    case round =>
     clear hE
     obtain⟨x,hx1,hx2,rfl,Hall,hE⟩:=hrel
     by_cases hlx:2*x≤z
     · have hc1:=fun U=>hcell (x - 1) _ (by omega) (lat_ext w U)
       have hc2:=fun U=>hcell (z - 1) _ (by omega) (lat_ext w U)
       have hc3:=fun U=>hcell (z - x - 1) _ (by omega) (lat_ext w U)
       have ix1:∀W,(Instr.indexAt 22 (.slice ao c.length k) (.int .i64 ((x:Int) - 1))).run Tryz.prog W=.ok (.pointer (some (adr (x - 1)))) W:=fun W=>by rw[show ((x:Int) - 1)=((x - 1:Nat):Int) by omega];exact hix _ W (by omega)
       have ix2:∀W,(Instr.indexAt 22 (.slice ao c.length k) (.int .i64 ((z:Int) - 1))).run Tryz.prog W=.ok (.pointer (some (adr (z - 1)))) W:=fun W=>by rw[show ((z:Int) - 1)=((z - 1:Nat):Int) by omega];exact hix _ W (by omega)
       have ix3:∀W,(Instr.indexAt 22 (.slice ao c.length k) (.int .i64 ((z:Int) - (x:Int) - 1))).run Tryz.prog W=.ok (.pointer (some (adr (z - x - 1)))) W:=fun W=>by rw[show ((z:Int) - (x:Int) - 1)=((z - x - 1:Nat):Int) by omega];exact hix _ W (by omega)
       have hg1:(1:Int)≤(z:Int) - (x:Int):=by omega
       have hg3:(2:Int)*(x:Int)≤(z:Int):=by omega
       clear hix hcell
       cases e1:(nth c (x - 1) == nth c (z - 1))
       · have He:=Lib.hid (eq3_no1 e1)
         go_wp2_with fail
         (refine wp_region_lat (w) (by kernel_rfl) (by kernel_rfl) hE ?_);(repeat (go_big_quiet_step (first | fail)));(refine wpQuiet_nil ?_);(intro W hE');(replace hE:=lat_of hE');(clear hE')
         go_wp2_with fail
         go_roundw
         case rel=>exact⟨x+1,by omega,by omega,by go_num,Lib.hid fun y hy1 hy2=>by by_cases e:y=x;(subst e;exact He.out);exact Hall.out y hy1 (by omega),hE⟩
         case measure=>(simp[intOf];omega)
       · cases e2:(nth c (z - x - 1) == nth c (z - 1))
         · have He:=Lib.hid ((eq3_yes1 e1).trans e2)
           go_wp2_with fail
           (refine wp_region_lat (w) (by kernel_rfl) (by kernel_rfl) hE ?_);(repeat (go_big_quiet_step (first | fail)));(refine wpQuiet_nil ?_);(intro W hE');(replace hE:=lat_of hE');(clear hE')
           go_wp2_with fail
           go_roundw
           case rel=>exact⟨x+1,by omega,by omega,by go_num,Lib.hid fun y hy1 hy2=>by by_cases e:y=x;(subst e;exact He.out);exact Hall.out y hy1 (by omega),hE⟩
           case measure=>(simp[intOf];omega)
         · have He:=Lib.hid (stB_yes hlg hz hlt hx1 hlx ((eq3_yes1 e1).trans e2))
           go_wp2_with fail
           (refine wp_region_lat (w) (by kernel_rfl) (by kernel_rfl) hE ?_);(repeat (go_big_quiet_step (first | fail)));(refine wpQuiet_nil ?_);(intro W hE');(replace hE:=lat_of hE');(clear hE')
           go_wp2_with fail
           rw[He.out]
           exact bodyPost_ret (v:=.tuple #[.slice (some ⟨W.heap.size,0,none⟩) 3 3,.bool true]) (by simp[results,Tryz.results42,go_sem]) rfl ⟨TB.mk _ _,hE.alloc _⟩
     · have Hrow:Hid (rowZ c z=false):=Lib.hid (rowZ_no (n:=x) (by omega) Hall.out)
       have hnl:¬((2:Int)*(x:Int)≤(z:Int)):=by omega
       go_wp2_with fail
       go_roundw
       case rel=>exact⟨z+1,by omega,by go_num,by omega,Lib.hid fun y hy1 hy2=>by by_cases e:y=z;(subst e;exact Hrow.out);exact H.out y hy1 (by omega),hE⟩
       case measure=>(simp[intOf];omega)
  · have Hs:=Lib.hid (stB_no (n:=z) (by omega) H.out)
    have hnl:¬((z:Int)≤(c.length:Int)):=by omega
    go_wp2_with fail
    rw[Hs.out]
    exact bodyPost_ret (v:=.tuple #[.slice (some ⟨wr.heap.size,0,none⟩) 0 0,.bool false]) (by simp[results,Tryz.results42,go_sem]) rfl ⟨TB.mk _ _,hE.alloc _⟩
theorem icB_k{c:List Int}{k:Int}(h:inB k 1 4=false):icB c k=false:=by unfold icB;rw[h];rfl
theorem icB_long{c:List Int}{k:Int}(h:¬c.length≤40):icB c k=false:=by unfold icB;rw[decide_eq_false h];simp
theorem icB_out{c:List Int}{k:Int}{j:Nat}(hj:j<c.length)(h:inB (nth c j) 0 (k - 1)=false):icB c k=false:=by
 unfold icB
 have:(c.all fun x=>inB x 0 (k - 1))=false:=by
  rw[List.all_eq_false];exact⟨_,nth_mem hj,by rw[h];simp⟩
 rw[this];simp
theorem icB_end{c:List Int}{k:Int}(h0:inB k 1 4=true)(h:∀j,j<c.length→inB (nth c j) 0 (k - 1)=true):icB c k=decide (c.length≤40):=by
 unfold icB
 have:(c.all fun x=>inB x 0 (k - 1))=true:=List.all_eq_true.2 fun x hx=>by
  obtain⟨j,hj,rfl⟩:=mem_nth hx;exact h j hj
 rw[this,h0];simp
theorem colors_any(v:Value)(c:List Int)(k:Int)(w:World)(h:Ints w v c)(Hk:Hid (inB k 1 4=true)) :
 Calls Tryz.prog 207 #[v,.int .i64 k,.int .i64 40] w fun e w'=>e=.returned (.bool (icB c k))∧w=w':=by
 obtain⟨ao,kc,adr,rfl,hlen,hadr,hcell⟩:=h.op
 have hix:=ints_index (c:=kc) elI szI hadr
 have hkb:=inB_t.1 Hk.out
 have hw:IntKind.i64.wrap (k - 1)=k - 1:=IntWalk.i64_in _ (by omega)
 clear hadr h
 go_enter Tryz.func207,Tryz.ntmps207
 go_wp2_with fail
 go_loopw [11] (fun jv wr=>∃j:Nat,j≤c.length∧jv=.int .i64 j∧Hid (∀y,y<j→inB (nth c y) 0 (k - 1)=true)∧w=wr) (fun jv _=>c.length - (intOf jv).toNat)
 case atStart=>exact⟨0,by omega,rfl,Lib.hid (by omega),rfl⟩
 case round =>
  obtain⟨j,hj,rfl,H,rfl⟩:=hrel
  by_cases hlt:j<c.length
  · have hck:=hcell j w hlt (Ext.refl _)
    cases hq:inB (nth c j) 0 (k - 1)
    · have Hn:=Lib.hid (icB_out hlt hq)
      have cI:=fun W=>within_any (nth c j) 0 (k - 1) W
      rw[hq] at cI
      clear hq
      go_wp2_with (refine (cI _).mono ?_;rintro e w' ⟨rfl,rfl⟩)
      go_ret
      exact⟨ret_bool Hn.out.symm,rfl⟩
    · have Hh:=Lib.hid hq
      have cI:=fun W=>within_any (nth c j) 0 (k - 1) W
      rw[hq] at cI
      clear hq
      go_wp2_with (refine (cI _).mono ?_;rintro e w' ⟨rfl,rfl⟩)
      go_roundw
      case rel=>exact⟨j+1,by omega,by go_num,Lib.hid fun y hy=>by by_cases e:y=j;(subst e;exact Hh.out);exact H.out y (by omega),(by first | trivial | rfl)⟩
      case measure=>(simp[intOf];omega)
  · have hjl:j=c.length:=by omega
    have Hn:=Lib.hid (icB_end Hk.out fun y hy=>H.out y (by omega))
    go_wp2_with fail
    go_ret
    exact⟨ret_bool (by rw[Hn.out,Bool.eq_iff_iff];simp;try omega),rfl⟩
theorem IsColoring_any(v:Value)(c:List Int)(k:Int)(w:World)(h:Ints w v c) :
 Calls Tryz.prog 172 #[v,.int .i64 k] w fun e w'=>e=.returned (.bool (icB c k))∧w=w':=by
 cases hk:inB k 1 4
 · have Hn:=Lib.hid (icB_k (c:=c) hk)
   have cI:=fun W=>within_any k 1 4 W
   rw[hk] at cI
   go_enter Tryz.func172,Tryz.ntmps172
   go_wp2_with (refine (cI _).mono ?_;rintro e w' ⟨rfl,rfl⟩)
   go_ret
   exact⟨ret_bool Hn.out.symm,rfl⟩
 · have cC:=colors_any v c k w h (Lib.hid hk)
   have cI:=fun W=>within_any k 1 4 W
   rw[hk] at cI
   go_enter Tryz.func172,Tryz.ntmps172
   go_wp2_with (first | (go_at_call 138;refine (cI _).mono ?_;rintro e w' ⟨rfl,rfl⟩) | (go_at_call 207;refine cC.mono ?_;rintro e w' ⟨rfl,rfl⟩))
   go_ret
   exact⟨rfl,rfl⟩
theorem sIsColoring_any(v:Value)(c:List Int)(k:Int)(w:World)(h:Ints w v c) :
 Calls Tryz.prog 188 #[v,.int .i64 k] w fun e w'=>e=.returned (.bool (icB c k))∧w=w':=by
 obtain⟨ao,kc,adr,rfl,hlen,hadr,hcell⟩:=h.op
 have hix:=ints_index (c:=kc) elI szI hadr
 clear hadr h
 have cK:=fun W=>l1In_any k 1 4 W
 cases hk:inB k 1 4
 · have Hn:=Lib.hid (icB_k (c:=c) hk)
   rw[hk] at cK
   go_enter Tryz.func188,Tryz.ntmps188
   go_wp2_with (refine (cK _).mono ?_;rintro e w' ⟨rfl,rfl⟩)
   go_ret
   exact⟨ret_bool Hn.out.symm,rfl⟩
 rw[hk] at cK
 by_cases hlg:c.length≤40
 rotate_left
 · have Hn:=Lib.hid (icB_long (k:=k) hlg)
   have hgt2:(40:Int)<(c.length:Int):=by omega
   clear hlg
   go_enter Tryz.func188,Tryz.ntmps188
   go_wp2_with (refine (cK _).mono ?_;rintro e w' ⟨rfl,rfl⟩)
   go_ret
   exact⟨ret_bool Hn.out.symm,rfl⟩
 have Hk:=Lib.hid hk
 have hkb:=inB_t.1 hk
 have hw:IntKind.i64.wrap (k - 1)=k - 1:=IntWalk.i64_in _ (by omega)
 have hle2:¬((40:Int)<(c.length:Int)):=by omega
 have Hlg:=Lib.hid hlg
 clear hk hlg
 go_enter Tryz.func188,Tryz.ntmps188
 go_wp2_with (refine (cK _).mono ?_;rintro e w' ⟨rfl,rfl⟩)
 go_loopw [5] (fun jv wr=>∃j:Nat,j≤c.length∧jv=.int .i64 j∧Hid (∀y,y<j→inB (nth c y) 0 (k - 1)=true)∧w=wr) (fun jv _=>c.length - (intOf jv).toNat)
 case atStart=>exact⟨0,by omega,rfl,Lib.hid (by omega),rfl⟩
 case round =>
  obtain⟨j,hj,rfl,H,rfl⟩:=hrel
  by_cases hlt:j<c.length
  · have hck:=hcell j w hlt (Ext.refl _)
    cases hq:inB (nth c j) 0 (k - 1)
    · have Hn:=Lib.hid (icB_out hlt hq)
      have cI:=fun W=>l1In_any (nth c j) 0 (k - 1) W
      rw[hq] at cI
      clear hq
      go_wp2_with (refine (cI _).mono ?_;rintro e w' ⟨rfl,rfl⟩)
      go_ret
      exact⟨ret_bool Hn.out.symm,rfl⟩
    · have Hh:=Lib.hid hq
      have cI:=fun W=>l1In_any (nth c j) 0 (k - 1) W
      rw[hq] at cI
      clear hq
      go_wp2_with (refine (cI _).mono ?_;rintro e w' ⟨rfl,rfl⟩)
      go_roundw
      case rel=>exact⟨j+1,by omega,by go_num,Lib.hid fun y hy=>by by_cases e:y=j;(subst e;exact Hh.out);exact H.out y (by omega),(by first | trivial | rfl)⟩
      case measure=>(simp[intOf];omega)
  · have hjl:j=c.length:=by omega
    have Hn:=Lib.hid (icB_end Hk.out fun y hy=>H.out y (by omega))
    go_wp2_with fail
    go_ret
    exact⟨ret_bool (by rw[Hn.out,decide_eq_true Hlg.out]),rfl⟩
theorem IsSchurColoring_any(v:Value)(c:List Int)(k:Int)(w:World)(h:Ints w v c) :
 Calls Tryz.prog 94 #[v,.int .i64 k] w fun e w'=>e=.returned (.bool (iscB c k))∧Ext w w':=by
 have cT:=SchurTriple_any v c w h
 have cC:=fun W (hW:Ext w W)=>IsColoring_any v c k W (h.ext hW)
 obtain⟨b1,hb1⟩:∃x,x=icB c k:=⟨_,rfl⟩
 obtain⟨b2,hb2⟩:∃x,x=stB c:=⟨_,rfl⟩
 have Hn:Hid (iscB c k=(b1 && !b2)):=Lib.hid (by unfold iscB;rw[hb1,hb2])
 rw[←hb1] at cC
 rw[←hb2] at cT
 obtain⟨ao,kc,adr,rfl,-,-,-⟩:=h.op
 clear hb1 hb2 h
 cases b1<;>cases b2
 all_goals
  go_enter Tryz.func94,Tryz.ntmps94
  go_wp2_with fail
  refine cT.mono ?_
  rintro e w1 ⟨⟨v1,rfl⟩,hE1⟩
  go_wp2_with (refine (cC _ hE1).mono ?_;rintro e w' ⟨rfl,rfl⟩)
  go_ret
  exact⟨ret_bool (by rw[Hn.out];rfl),hE1⟩
theorem sIsSchurColoring_any(v:Value)(c:List Int)(k:Int)(w:World)(h:Ints w v c) :
 Calls Tryz.prog 121 #[v,.int .i64 k] w fun e w'=>e=.returned (.bool (iscB c k))∧Ext w w':=by
 have cT:=sSchurTriple_any v c w h
 have cC:=fun W (hW:Ext w W)=>sIsColoring_any v c k W (h.ext hW)
 obtain⟨b1,hb1⟩:∃x,x=icB c k:=⟨_,rfl⟩
 obtain⟨b2,hb2⟩:∃x,x=stB c:=⟨_,rfl⟩
 have Hn:Hid (iscB c k=(b1 && !b2)):=Lib.hid (by unfold iscB;rw[hb1,hb2])
 rw[←hb1] at cC
 rw[←hb2] at cT
 obtain⟨ao,kc,adr,rfl,-,-,-⟩:=h.op
 clear hb1 hb2 h
 cases b1<;>cases b2
 all_goals
  go_enter Tryz.func121,Tryz.ntmps121
  go_wp2_with fail
  refine cT.mono ?_
  rintro e w1 ⟨⟨v1,rfl⟩,hE1⟩
  go_wp2_with (refine (cC _ hE1).mono ?_;rintro e w' ⟨rfl,rfl⟩)
  go_ret
  exact⟨ret_bool (by rw[Hn.out];rfl),hE1⟩
end Go.Zz
namespace Go.Zz
open Go.RowKit Go.Proofs
def c1F(g:List Int)(a b s p:Int):Bool:=fullB g a b&&((s == ((sumF g a.toNat b.toNat:Nat):Int))&&(p == ((stabF g (sumF g a.toNat b.toNat):Nat):Int)))
def c7F(g:List Int)(a s p:Int):Bool:=smallF g a&&((p == ((sumF g a.toNat (oppF g a.toNat):Nat):Int))&&subB g p&&(s == ((sumF g a.toNat p.toNat:Nat):Int))&&(((cnt s.toNat:Nat):Int) == ((cnt p.toNat:Nat):Int)))
def ccF(k:Int)(g o:List Int)(a b s p:Int)(t q:List Int)(n:Int):Bool :=
 if k=1 then c1F g a b s p else
 if k=2 then (seqB g t&&zsB g q&&decide (q.length≠0)&&subM t q) else
 if k=3 then zfB g t else
 if k=4 then tilF g a b else
 if k=5 then (soB g t&&soB o q&&(soV g t == a)&&(soV o q == b)&&isoF g o t q) else
 if k=6 then iscB t n else
 if k=7 then c7F g a s p else false
end Go.Zz
namespace Go.Zz
open Go.RowKit Go.Proofs
set_option maxHeartbeats 2000000
set_option maxRecDepth 20000
theorem castL_inj:∀{A B:List Nat},castL A=castL B→A=B:=fun {A B} e=>by
 have:=congrArg (List.map Int.toNat) e
 simpa[castL,Function.comp_def] using this
theorem castL_nat(X:List Nat):(castL X).map Int.toNat=X:=by simp[castL,Function.comp_def]
theorem seqB_natX{l:List Int}{X:List Nat}(h:seqB l (castL X)=true):X.length≤12∧isGrp l=true∧∀x∈X,x<24:=by
 obtain⟨X',e1,-,h12,hgr,hall⟩:=seqB_nat h
 obtain rfl:=castL_inj e1
 exact⟨h12,hgr,hall⟩
theorem ShortestZero_seq(v u:Value)(l:List Int)(X:List Nat)(w:World)(h:Ints w v l)(hu:Ints w u (castL X))(hs:seqB l (castL X)=true) :
 Calls Tryz.prog 70 #[.agg #[v],u] w fun e w'=>∃p,e=.returned (.tuple #[p,.bool (szB l X)])∧Own 3 w w' p (castL (szR l X))∧Ext w w':=by
 obtain⟨wb,hwb⟩:∃wb,wb=w.alloc (.cells #[v] 27):=⟨_,rfl⟩
 have hE0:=(Ext.refl w).alloc (.cells #[v] 27)
 have hb:=box_cell w v 27
 rw[←hwb] at hE0 hb
 have hg:∀W,Ext wb W→Ints W v l:=fun W hW=>h.ext (hE0.trans hW)
 have hE:=Ext.refl wb
 have Hsz:Hid (w.heap.size+1=wb.heap.size):=Lib.hid (by rw[hwb];simp[go_sem])
 have Hwb:=Lib.hid hwb
 clear hwb h
 obtain⟨h12,hgr,hall⟩:=seqB_natX hs
 have Hgu:Hid (∀W,Ext wb W→Ints W u (castL X)):=Lib.hid fun W hW=>hu.ext (hE0.trans hW)
 obtain⟨ao,c,adr,rfl,hadr,hcell⟩:=hu.nats
 have Hat:=Lib.hid (fun (k:Nat) a b c=>sz_at (l:=l) h12 (k:=k) a b c)
 have Hnone:=Lib.hid (fun a=>sz_none (l:=l) h12 a)
 clear hall hgr hadr hcell hu
 go_enter Tryz.func70,Tryz.ntmps70
 go_wp2_with fail
 rw[←Hwb.out]
 go_loopw [6] (fun i wr=>∃k:Nat,1≤k∧k≤X.length+1∧i=.int .i64 k∧(∀j,1≤j→j<k→zolB l X j=false)∧Ext wb wr) (fun i _=>X.length+1 - (intOf i).toNat)
 case atStart=>exact⟨1,by omega,by omega,rfl,by omega,hE⟩
 case round =>
  clear hE
  obtain⟨k,hk1,hk2,rfl,hno,hE⟩:=hrel
  have Hno:=Lib.hid hno
  have hbx:=hb _ hE
  clear hno
  by_cases hlt:k≤X.length
  · cases hz:zolB l X k
    · have Hz:=Lib.hid hz
      go_wp2_with (first | (go_at_call 63;refine (IsSequence_val _ _ _ _ _ (hg _ hE) (Hgu.out _ hE) hs).mono ?_;rintro e w' ⟨rfl,hE'⟩;replace hE:=hE.trans hE';clear hE') | (go_at_call 155;refine (ZeroOfLength_seq _ _ _ _ _ _ (hg _ hE) (Hgu.out _ hE) hs hk1 hlt).mono ?_;rw[hz];rintro e w' ⟨p,rfl,hO,hE'⟩;replace hE:=hE.trans hE';clear hE'))
      go_roundw
      case rel=>exact⟨k+1,by omega,by omega,by go_num,fun j h1 hj=>by by_cases e:j=k;(subst e;exact Hz.out);exact Hno.out j h1 (by omega),hE⟩
      case measure=>(simp[intOf];omega)
    · have Hz:=Lib.hid (Hat.out k hk1 Hno.out hz)
      go_wp2_with (first | (go_at_call 63;refine (IsSequence_val _ _ _ _ _ (hg _ hE) (Hgu.out _ hE) hs).mono ?_;rintro e w' ⟨rfl,hE'⟩;replace hE:=hE.trans hE';clear hE') | (go_at_call 155;refine (ZeroOfLength_seq _ _ _ _ _ _ (hg _ hE) (Hgu.out _ hE) hs hk1 hlt).mono ?_;rw[hz];rintro e w' ⟨p,rfl,hO,hE'⟩;replace hO:=hO.mono hE;replace hE:=hE.trans hE';clear hE'))
      exact bodyPost_ret (v:=.tuple #[p,.bool true]) (by simp[results,Tryz.results70,go_sem]) rfl ⟨_,by rw[Hz.out.2],by rw[Hz.out.1];exact hO.mono hE0,hE0.trans hE⟩
  · have Hz:=Lib.hid (Hnone.out fun j h1 hj=>Hno.out j h1 (by omega))
    have hO:Own 3 wr (wr.alloc (.cells #[] 3)) (.slice (some ⟨wr.heap.size,0,none⟩) 0 0) (castL []):=own_made (TI:=3) (n:=0) (by omega) (Ext.refl wr) [] rfl
    go_wp2_with fail
    exact bodyPost_ret (v:=.tuple #[.slice (some ⟨wr.heap.size,0,none⟩) 0 0,.bool false]) (by simp[results,Tryz.results70,go_sem]) rfl ⟨_,by rw[Hz.out.2],by rw[Hz.out.1];exact hO.mono (hE0.trans hE),hE0.trans (hE.alloc _)⟩
theorem sShortestZero_seq(v u:Value)(l:List Int)(X:List Nat)(w:World)(h:Ints w v l)(hu:Ints w u (castL X))(hs:seqB l (castL X)=true) :
 Calls Tryz.prog 56 #[.agg #[v],u] w fun e w'=>∃p,e=.returned (.tuple #[p,.bool (szB l X)])∧Own 3 w w' p (castL (szR l X))∧Ext w w':=by
 obtain⟨wb,hwb⟩:∃wb,wb=w.alloc (.cells #[v] 27):=⟨_,rfl⟩
 have hE0:=(Ext.refl w).alloc (.cells #[v] 27)
 have hb:=box_cell w v 27
 rw[←hwb] at hE0 hb
 have hg:∀W,Ext wb W→Ints W v l:=fun W hW=>h.ext (hE0.trans hW)
 have hE:=Ext.refl wb
 have Hsz:Hid (w.heap.size+1=wb.heap.size):=Lib.hid (by rw[hwb];simp[go_sem])
 have Hwb:=Lib.hid hwb
 clear hwb h
 obtain⟨h12,hgr,hall⟩:=seqB_natX hs
 have Hall:=Lib.hid hall
 have Hgr:=Lib.hid hgr
 have hp:=pw_len h12
 have hp1:=pw_pos X.length
 have hs1:=ishl_one (n:=X.length) (by omega)
 have Hgu:Hid (∀W,Ext wb W→Ints W u (castL X)):=Lib.hid fun W hW=>hu.ext (hE0.trans hW)
 obtain⟨ao,c,adr,rfl,hadr,hcell⟩:=hu.nats
 have Hone:=Lib.hid (szTo_one l X)
 have Hspec:=Lib.hid (szTo_spec l X)
 have Hyes:=Lib.hid (fun (c:Nat) a b d=>szTo_yes (l:=l) (X:=X) (c:=c) a b d)
 have Hno:=Lib.hid (fun (c:Nat) a=>szTo_no (l:=l) (X:=X) (c:=c) a)
 have Hlen:=Lib.hid (fun (b:Nat) a=>szL'_len h12 (b:=b) a)
 have Hpl:=Lib.hid (fun (b:Nat) a=>partL_len (X:=X) (by omega) (m:=b) a)
 have hO:Own 3 wb (wb.alloc (.cells #[] 3)) (.slice (some ⟨wb.heap.size,0,none⟩) 0 0) (castL (szL' X (szTo l X 1))):=by
  rw[Hone.out];exact own_made (TI:=3) (n:=0) (by omega) (Ext.refl wb) [] rfl
 have hEl:=hE.alloc (.cells #[] 3)
 clear hall hgr hadr hcell hu
 go_enter Tryz.func56,Tryz.ntmps56
 go_wp2_with fail
 rw[←Hwb.out];rw[Hsz.out]
 go_loopw [6,7] (fun p i wr=>∃c:Nat,1≤c∧c≤pw X.length∧i=.int .i64 c∧Own 3 wb wr p (castL (szL' X (szTo l X c)))∧Ext wb wr) (fun _ i _=>pw X.length - (intOf i).toNat)
 case atStart=>exact⟨1,by omega,by omega,rfl,hO,hEl⟩
 case round =>
  clear hE hEl hO
  obtain⟨c',hc1,hc2,rfl,hO,hE⟩:=hrel
  obtain⟨c0,HB⟩:∃B,Hid (B=szTo l X c'):=⟨_,Lib.hid rfl⟩
  rw[←HB.out] at hO
  have HBl:Hid (c0<pw X.length):=Lib.hid (by
   rcases Hspec.out c' with ⟨h,_⟩ | ⟨_,h,_⟩
   · rw[HB.out,h];omega
   · rw[HB.out];omega)
  obtain⟨n2,Hl2⟩:∃n2,Hid (n2=(szL' X c0).length):=⟨_,Lib.hid rfl⟩
  obtain⟨ao2,c2,e2⟩:=hO.nshape
  rw[←Hl2.out] at e2
  subst e2
  have HL2:Hid (n2=cnt c0):=Lib.hid (by rw[Hl2.out];exact Hlen.out c0 (by have:=HBl.out;unfold pw at this;exact this))
  have hn24:n2≤24:=by rw[HL2.out];exact cnt_le _
  by_cases hlt:c'<pw X.length
  · have hc24:c'<2 ^ 24:=by omega
    obtain⟨n1,Hl1⟩:∃n1,Hid (n1=(partL X c').length):=⟨_,Lib.hid rfl⟩
    have HL1:Hid (n1=cnt c'):=Lib.hid (by rw[Hl1.out];exact Hpl.out c' (by unfold pw at hlt;exact hlt))
    have hn1:n1≤24:=by rw[HL1.out];exact cnt_le _
    have H0:Hid (cnt c0=0↔c0=0):=Lib.hid ⟨fun e=>by
     by_cases h:c0=0
     · exact h
     · have:=cnt_pos (a:=c0) (by omega) (by have:=HBl.out;omega);omega,fun e=>by rw[e];exact cnt_zero⟩
    by_cases ht:tot l (partL X c')=0
    · have hq:((tot l (partL X c'):Int) == 0)=true:=by rw[ht];simp
      have Ht:=Lib.hid ht
      clear ht
      by_cases h0:n2=0
      · have Hn:Hid (szTo l X (c'+1)=c'):=Lib.hid (Hyes.out c' (by omega) Ht.out (Or.inl (by rw[←HB.out];exact H0.out.1 (by rw[←HL2.out];exact h0))))
        have hz:((n2:Int) == 0)=true:=by rw[h0];rfl
        clear h0
        go_wp2_with (first | (go_at_call 21;refine (sIsSequence_val _ _ _ _ _ (hg _ hE) (Hgu.out _ hE) hs).mono ?_;rintro e w' ⟨rfl,hE'⟩;replace hO:=hO.ext hE';replace hE:=hE.trans hE';clear hE') | (go_at_call 144;refine (l16Part_any _ _ _ _ (Hgu.out _ hE) hc24 (by omega)).mono ?_;rintro e w1 ⟨x1,rfl,hO1,hE1⟩;obtain⟨ao1,c1,e1⟩:=hO1.nshape;rw[←Hl1.out] at e1;subst e1;replace hO1:=hO1.mono hE;replace hO:=hO.ext hE1;replace hE:=hE.trans hE1;clear hE1) | (go_at_call 53;refine (l16Sum_any _ _ _ _ _ (hg _ hE) hO1.ints Hgr (Lib.hid fun x hx=>Hall.out x (partL_mem hx))).mono ?_;rintro e w' ⟨rfl,hE'⟩;replace hO:=hO.ext hE';replace hO1:=hO1.ext hE';replace hE:=hE.trans hE';clear hE'))
        go_roundw
        case rel=>exact⟨c'+1,by omega,by omega,by go_num,by rw[Hn.out];unfold szL';rw[if_neg (by omega)];exact hO1,hE⟩
        case measure=>(simp[intOf];omega)
      · have hz:((n2:Int) == 0)=false:=by simp;omega
        by_cases h3:n1<n2
        · have Hn:Hid (szTo l X (c'+1)=c'):=Lib.hid (Hyes.out c' (by omega) Ht.out (Or.inr (by rw[←HB.out,←HL1.out,←HL2.out];exact h3)))
          clear h0
          go_wp2_with (first | (go_at_call 21;refine (sIsSequence_val _ _ _ _ _ (hg _ hE) (Hgu.out _ hE) hs).mono ?_;rintro e w' ⟨rfl,hE'⟩;replace hO:=hO.ext hE';replace hE:=hE.trans hE';clear hE') | (go_at_call 144;refine (l16Part_any _ _ _ _ (Hgu.out _ hE) hc24 (by omega)).mono ?_;rintro e w1 ⟨x1,rfl,hO1,hE1⟩;obtain⟨ao1,c1,e1⟩:=hO1.nshape;rw[←Hl1.out] at e1;subst e1;replace hO1:=hO1.mono hE;replace hO:=hO.ext hE1;replace hE:=hE.trans hE1;clear hE1) | (go_at_call 53;refine (l16Sum_any _ _ _ _ _ (hg _ hE) hO1.ints Hgr (Lib.hid fun x hx=>Hall.out x (partL_mem hx))).mono ?_;rintro e w' ⟨rfl,hE'⟩;replace hO:=hO.ext hE';replace hO1:=hO1.ext hE';replace hE:=hE.trans hE';clear hE'))
          go_roundw
          case rel=>exact⟨c'+1,by omega,by omega,by go_num,by rw[Hn.out];unfold szL';rw[if_neg (by omega)];exact hO1,hE⟩
          case measure=>(simp[intOf];omega)
        · have Hn:Hid (szTo l X (c'+1)=c0):=Lib.hid ((Hno.out c' (by
           rintro⟨_,e | e⟩
           · exact h0 (by rw[HL2.out];exact H0.out.2 (by rw[HB.out];exact e))
           · rw[←HB.out,←HL1.out,←HL2.out] at e;exact h3 e)).trans HB.out.symm)
          clear h0
          go_wp2_with (first | (go_at_call 21;refine (sIsSequence_val _ _ _ _ _ (hg _ hE) (Hgu.out _ hE) hs).mono ?_;rintro e w' ⟨rfl,hE'⟩;replace hO:=hO.ext hE';replace hE:=hE.trans hE';clear hE') | (go_at_call 144;refine (l16Part_any _ _ _ _ (Hgu.out _ hE) hc24 (by omega)).mono ?_;rintro e w1 ⟨x1,rfl,hO1,hE1⟩;obtain⟨ao1,c1,e1⟩:=hO1.nshape;rw[←Hl1.out] at e1;subst e1;replace hO1:=hO1.mono hE;replace hO:=hO.ext hE1;replace hE:=hE.trans hE1;clear hE1) | (go_at_call 53;refine (l16Sum_any _ _ _ _ _ (hg _ hE) hO1.ints Hgr (Lib.hid fun x hx=>Hall.out x (partL_mem hx))).mono ?_;rintro e w' ⟨rfl,hE'⟩;replace hO:=hO.ext hE';replace hO1:=hO1.ext hE';replace hE:=hE.trans hE';clear hE'))
          go_roundw
          case rel=>exact⟨c'+1,by omega,by omega,by go_num,by rw[Hn.out];exact hO,hE⟩
          case measure=>(simp[intOf];omega)
    · have hq:((tot l (partL X c'):Int) == 0)=false:=by simp;omega
      have Hn:Hid (szTo l X (c'+1)=c0):=Lib.hid ((Hno.out c' (fun e=>ht e.1)).trans HB.out.symm)
      clear ht
      go_wp2_with (first | (go_at_call 21;refine (sIsSequence_val _ _ _ _ _ (hg _ hE) (Hgu.out _ hE) hs).mono ?_;rintro e w' ⟨rfl,hE'⟩;replace hO:=hO.ext hE';replace hE:=hE.trans hE';clear hE') | (go_at_call 144;refine (l16Part_any _ _ _ _ (Hgu.out _ hE) hc24 (by omega)).mono ?_;rintro e w1 ⟨x1,rfl,hO1,hE1⟩;obtain⟨ao1,c1,e1⟩:=hO1.nshape;rw[←Hl1.out] at e1;subst e1;replace hO1:=hO1.mono hE;replace hO:=hO.ext hE1;replace hE:=hE.trans hE1;clear hE1) | (go_at_call 53;refine (l16Sum_any _ _ _ _ _ (hg _ hE) hO1.ints Hgr (Lib.hid fun x hx=>Hall.out x (partL_mem hx))).mono ?_;rintro e w' ⟨rfl,hE'⟩;replace hO:=hO.ext hE';replace hO1:=hO1.ext hE';replace hE:=hE.trans hE';clear hE'))
      go_roundw
      case rel=>exact⟨c'+1,by omega,by omega,by go_num,by rw[Hn.out];exact hO,hE⟩
      case measure=>(simp[intOf];omega)
  · have hcl:c'=pw X.length:=by omega
    have HcB:Hid (c0=szN l X):=Lib.hid (by rw[HB.out,hcl];rfl)
    have Hz:Hid (decide ((0:Int)<(n2:Int))=szB l X):=Lib.hid (by
     unfold szB
     rw[←HcB.out,HL2.out]
     by_cases h:c0=0
     · rw[h,cnt_zero];rfl
     · have:=cnt_pos (a:=c0) (by omega) (by have:=HBl.out;omega)
       rw[decide_eq_true (show (0:Int)<(cnt c0:Int) by omega),decide_eq_true h])
    clear hcl
    go_wp2_with fail
    exact bodyPost_ret (v:=.tuple #[.slice ao2 n2 c2,.bool (szB l X)]) (by simp[results,Tryz.results56,go_sem,←Hz.out]) rfl ⟨_,rfl,by unfold szR;rw[←HcB.out];exact hO.mono hE0,hE0.trans hE⟩
end Go.Zz
namespace Go.Zz
open Go.RowKit Go.Proofs
set_option maxHeartbeats 2000000
set_option maxRecDepth 20000
def cqX(xs:List Int):List Nat:=xs.map Int.toNat
def cqK(l xs:List Int):Int:=if seqB l xs then if szB l (cqX xs) then 2 else 3 else 0
def cqG(l xs:List Int):List Int:=if seqB l xs then l else []
def cqT(l xs:List Int):List Int:=if seqB l xs then xs else []
def cqP(l xs:List Int):List Int:=if seqB l xs then castL (szR l (cqX xs)) else []
theorem cq_no{l xs:List Int}(h:seqB l xs=false):cqK l xs=0∧cqG l xs=[]∧cqT l xs=[]∧cqP l xs=[]:=by unfold cqK cqG cqT cqP;rw[h];exact⟨rfl,rfl,rfl,rfl⟩
theorem cq_yes{l:List Int}{X:List Nat}(h:seqB l (castL X)=true)(hz:szB l X=true):cqK l (castL X)=2∧cqG l (castL X)=l∧cqT l (castL X)=castL X∧cqP l (castL X)=castL (szR l X):=by
 have e:cqX (castL X)=X:=castL_nat X
 unfold cqK cqG cqT cqP;rw[h,e,hz];exact⟨rfl,rfl,rfl,rfl⟩
theorem szR_no{l:List Int}{X:List Nat}(hz:szB l X=false):szR l X=[]:=by
 unfold szB at hz
 have:szN l X=0:=by simpa using hz
 unfold szR szL';rw[if_pos this]
theorem cq_free{l:List Int}{X:List Nat}(h:seqB l (castL X)=true)(hz:szB l X=false):cqK l (castL X)=3∧cqG l (castL X)=l∧cqT l (castL X)=castL X∧cqP l (castL X)=[]:=by
 have e:cqX (castL X)=X:=castL_nat X
 unfold cqK cqG cqT cqP;rw[h,e,hz,szR_no hz];exact⟨rfl,rfl,rfl,rfl⟩
theorem own_app{TI:TypeId}{w0 w:World}{v:Value}{xs:List Int}(h:Own TI w0 w v ([]++xs)):Own TI w0 w v xs:=h
theorem sClaimOfSequence_any(v u:Value)(l xs:List Int)(w:World)(h:Ints w v l)(hu:Ints w u xs) :
 Calls Tryz.prog 18 #[.agg #[v],u] w fun e w'=>∃v1 v2 v3 v4,e=.returned (.tuple #[CV (cqK l xs) v1 v2 0 0 0 0 v3 v4 0,.bool (seqB l xs)])∧Own4 w w' v1 v2 v3 v4 (cqG l xs) [] (cqT l xs) (cqP l xs)∧Ext w w':=by
 obtain⟨wb,hwb⟩:∃wb,wb=w.alloc (.cells #[v] 27):=⟨_,rfl⟩
 have hE0:=(Ext.refl w).alloc (.cells #[v] 27)
 have hb:=box_cell w v 27
 rw[←hwb] at hE0 hb
 have hg:∀W,Ext wb W→Ints W v l:=fun W hW=>h.ext (hE0.trans hW)
 have hE:=Ext.refl wb
 have Hsz:Hid (w.heap.size+1=wb.heap.size):=Lib.hid (by rw[hwb];simp[go_sem])
 have Hwb:=Lib.hid hwb
 clear hwb h
 obtain⟨wc,hwc⟩:∃wc,wc=wb.alloc (.cells #[.int .i64 0,.slice none 0 0,.slice none 0 0,.int .i64 0,.int .i64 0,.int .i64 0,.int .i64 0,.slice none 0 0,.slice none 0 0,.int .i64 0] 38):=⟨_,rfl⟩
 have hBc:Blk wc wb.heap.size 38 #[.int .i64 0,.slice none 0 0,.slice none 0 0,.int .i64 0,.int .i64 0,.int .i64 0,.int .i64 0,.slice none 0 0,.slice none 0 0,.int .i64 0]:=by rw[hwc];exact Blk.new _ _ _
 have hRc:Res wc wb.heap.size 10:=hBc.res (by simp)
 have hAc:Ext wb wc:=by rw[hwc];exact hE.alloc _
 replace hE:=Ext.refl wc
 have Hsz2:Hid (wb.heap.size+1=wc.heap.size):=Lib.hid (by rw[hwc];simp[go_sem])
 have Hwc:=Lib.hid hwc
 clear hwc hBc
 have hgc:∀W,Ext wc W→Ints W v l:=fun W hW=>hg W (hAc.trans hW)
 have hbc:∀W,Ext wc W→W.cell? ⟨w.heap.size,0,none⟩=some v:=fun W hW=>hb W (hAc.trans hW)
 have hwc:wb.heap.size<wc.heap.size:=by have:=Hsz2.out;omega
 have Hgu:Hid (∀W,Ext wc W→Ints W u xs):=Lib.hid fun W hW=>hu.ext (hE0.trans (hAc.trans hW))
 cases hs:seqB l xs
 · have Hs:=Lib.hid (cq_no hs)
   go_enter Tryz.func18,Tryz.ntmps18
   go_wp2_with fail
   rw[←Hwb.out,←Hwc.out];rw[Hsz.out]
   refine (sIsSequence_val _ _ _ _ _ (hgc _ hE) (Hgu.out _ hE) hs).mono ?_
   rintro e w1 ⟨rfl,hE1⟩
   have hr:=hRc.ext hE1
   unfold Res at hr
   go_wp2_with fail
   exact bodyPost_ret (v:=.tuple #[CV 0 (.slice none 0 0) (.slice none 0 0) 0 0 0 0 (.slice none 0 0) (.slice none 0 0) 0,.bool false]) (by simp[results,Tryz.results18,go_sem,hr,CV]) rfl ⟨_,_,_,_,by rw[Hs.out.1],by rw[Hs.out.2.1,Hs.out.2.2.1,Hs.out.2.2.2];exact⟨Own.nil _ _ _,Own.nil _ _ _,Own.nil _ _ _,Own.nil _ _ _,Apart.nil_left _,Apart.nil_left _,Apart.nil_left _,Apart.nil_left _,Apart.nil_left _,Apart.nil_left _⟩,hE0.trans (by (repeat (refine Ext.setCell ?_ (Nat.le_refl _) _));exact hAc.trans hE1)⟩
 · obtain⟨X,rfl,-,-,-,-⟩:=seqB_nat hs
   have hlen:X.length≤17592186044416:=by have:=(seqB_natX hs).1;omega
   have Hlen:Hid ((castL X).length≤17592186044416):=Lib.hid (by rw[castL_len];exact hlen)
   cases hz:szB l X
   · have Hs:=Lib.hid (cq_free hs hz)
     go_enter Tryz.func18,Tryz.ntmps18
     go_wp2_with fail
     rw[←Hwb.out,←Hwc.out];rw[Hsz.out]
     refine (sIsSequence_val _ _ _ _ _ (hgc _ hE) (Hgu.out _ hE) hs).mono ?_
     rintro e w1 ⟨rfl,hE1⟩
     go_wp2_with fail
     refine (sShortestZero_seq _ _ _ _ _ (hgc _ hE1) (Hgu.out _ hE1) hs).mono ?_
     rw[hz]
     rintro e w2 ⟨p,rfl,-,hE'⟩
     replace hE1:=hE1.trans hE'
     clear hE'
     go_wp2_with fail
     refine (l33Group_any _ _ _ (hgc _ hE1)).mono ?_
     rintro e w3 ⟨aoG,cG,rfl,hOG,hE'⟩
     have hG1:=hE1
     replace hE1:=hE1.trans hE'
     clear hE'
     have hO:Own 3 w3 (w3.alloc (.cells #[] 3)) (.slice (some ⟨w3.heap.size,0,none⟩) 0 0) []:=own_made (TI:=3) (n:=0) (by omega) (Ext.refl w3) [] rfl
     have hEl:=(Ext.refl w3).alloc (.cells #[] 3)
     have hI:=Hgu.out _ (hE1.trans hEl)
     go_wp2_with (at_builtin;refine wp_appends slI rfl _ _ rfl w3 _ _ _ _ _ hO hI hEl (by simpa using Hlen.out) rfl rfl ?_;intro v1 w4 hO1 hE4;replace hO1:=own_app hO1;obtain⟨ao,c,rfl,-⟩:=hO1.shape;have hr:=hRc.ext (hE1.trans hE4);unfold Res at hr)
     have hGw:=hOG.ext hE4
     have hA:=apart_of hOG hO1 (Nat.le_refl _)
     have hw2:wb.heap.size<w2.heap.size:=Nat.lt_of_lt_of_le hwc hG1.size
     have hw3:wb.heap.size<w3.heap.size:=Nat.lt_of_lt_of_le hwc hE1.size
     exact bodyPost_ret (v:=.tuple #[CV 3 (.slice aoG l.length cG) (.slice none 0 0) 0 0 0 0 (.slice ao (castL X).length c) (.slice none 0 0) 0,.bool true]) (by simp[results,Tryz.results18,go_sem,hr,CV]) rfl ⟨_,_,_,_,by rw[Hs.out.1],by
      rw[Hs.out.2.1,Hs.out.2.2.1,Hs.out.2.2.2]
      exact⟨(show Own 3 w2 _ _ _ by (repeat (refine Own.setCell_below ?_ hw2 _));exact hGw).mono (hE0.trans (hAc.trans hG1)),Own.nil _ _ _,(show Own 3 w3 _ _ _ by (repeat (refine Own.setCell_below ?_ hw3 _));exact hO1).mono (hE0.trans (hAc.trans hE1)),Own.nil _ _ _,Apart.nil_right _,hA,Apart.nil_right _,Apart.nil_left _,Apart.nil_left _,Apart.nil_right _⟩,
      hE0.trans (by (repeat (refine Ext.setCell ?_ (Nat.le_refl _) _));exact hAc.trans (hE1.trans hE4))⟩
   · have Hs:=Lib.hid (cq_yes hs hz)
     go_enter Tryz.func18,Tryz.ntmps18
     go_wp2_with fail
     rw[←Hwb.out,←Hwc.out];rw[Hsz.out]
     refine (sIsSequence_val _ _ _ _ _ (hgc _ hE) (Hgu.out _ hE) hs).mono ?_
     rintro e w1 ⟨rfl,hE1⟩
     go_wp2_with fail
     refine (sShortestZero_seq _ _ _ _ _ (hgc _ hE1) (Hgu.out _ hE1) hs).mono ?_
     rw[hz]
     rintro e w2 ⟨p,rfl,hOP,hE'⟩
     obtain⟨aoP,cP,rfl,-⟩:=hOP.shape
     have hP1:=hE1
     replace hE1:=hE1.trans hE'
     clear hE'
     go_wp2_with fail
     refine (l33Group_any _ _ _ (hgc _ hE1)).mono ?_
     rintro e w3 ⟨aoG,cG,rfl,hOG,hE'⟩
     have hG1:=hE1
     have hPG:=apart_of hOP hOG (Nat.le_refl _)
     replace hOP:=hOP.ext hE'
     replace hE1:=hE1.trans hE'
     clear hE'
     have hO:Own 3 w3 (w3.alloc (.cells #[] 3)) (.slice (some ⟨w3.heap.size,0,none⟩) 0 0) []:=own_made (TI:=3) (n:=0) (by omega) (Ext.refl w3) [] rfl
     have hEl:=(Ext.refl w3).alloc (.cells #[] 3)
     have hI:=Hgu.out _ (hE1.trans hEl)
     go_wp2_with (at_builtin;refine wp_appends slI rfl _ _ rfl w3 _ _ _ _ _ hO hI hEl (by simpa using Hlen.out) rfl rfl ?_;intro v1 w4 hO1 hE4;replace hO1:=own_app hO1;obtain⟨ao,c,rfl,-⟩:=hO1.shape;have hr:=hRc.ext (hE1.trans hE4);unfold Res at hr)
     have hGw:=hOG.ext hE4
     have hPw:=hOP.ext hE4
     have hA:=apart_of hOG hO1 (Nat.le_refl _)
     have hB:=apart_of hOP hO1 (Nat.le_refl _)
     have hw1:wb.heap.size<w1.heap.size:=Nat.lt_of_lt_of_le hwc hP1.size
     have hw2:wb.heap.size<w2.heap.size:=Nat.lt_of_lt_of_le hwc hG1.size
     have hw3:wb.heap.size<w3.heap.size:=Nat.lt_of_lt_of_le hwc hE1.size
     exact bodyPost_ret (v:=.tuple #[CV 2 (.slice aoG l.length cG) (.slice none 0 0) 0 0 0 0 (.slice ao (castL X).length c) (.slice aoP (castL (szR l X)).length cP) 0,.bool true]) (by simp[results,Tryz.results18,go_sem,hr,CV]) rfl ⟨_,_,_,_,by rw[Hs.out.1],by
      rw[Hs.out.2.1,Hs.out.2.2.1,Hs.out.2.2.2]
      exact⟨(show Own 3 w2 _ _ _ by (repeat (refine Own.setCell_below ?_ hw2 _));exact hGw).mono (hE0.trans (hAc.trans hG1)),Own.nil _ _ _,(show Own 3 w3 _ _ _ by (repeat (refine Own.setCell_below ?_ hw3 _));exact hO1).mono (hE0.trans (hAc.trans hE1)),(show Own 3 w1 _ _ _ by (repeat (refine Own.setCell_below ?_ hw1 _));exact hPw).mono (hE0.trans (hAc.trans hP1)),Apart.nil_right _,hA,hPG.symm,Apart.nil_left _,Apart.nil_left _,hB.symm⟩,
      hE0.trans (by (repeat (refine Ext.setCell ?_ (Nat.le_refl _) _));exact hAc.trans (hE1.trans hE4))⟩
theorem ClaimOfSequence_any(v u:Value)(l xs:List Int)(w:World)(h:Ints w v l)(hu:Ints w u xs) :
 Calls Tryz.prog 17 #[.agg #[v],u] w fun e w'=>∃v1 v2 v3 v4,e=.returned (.tuple #[CV (cqK l xs) v1 v2 0 0 0 0 v3 v4 0,.bool (seqB l xs)])∧Own4 w w' v1 v2 v3 v4 (cqG l xs) [] (cqT l xs) (cqP l xs)∧Ext w w':=by
 obtain⟨wb,hwb⟩:∃wb,wb=w.alloc (.cells #[v] 27):=⟨_,rfl⟩
 have hE0:=(Ext.refl w).alloc (.cells #[v] 27)
 have hb:=box_cell w v 27
 rw[←hwb] at hE0 hb
 have hg:∀W,Ext wb W→Ints W v l:=fun W hW=>h.ext (hE0.trans hW)
 have hE:=Ext.refl wb
 have Hsz:Hid (w.heap.size+1=wb.heap.size):=Lib.hid (by rw[hwb];simp[go_sem])
 have Hwb:=Lib.hid hwb
 clear hwb h
 obtain⟨wc,hwc⟩:∃wc,wc=wb.alloc (.cells #[.int .i64 0,.slice none 0 0,.slice none 0 0,.int .i64 0,.int .i64 0,.int .i64 0,.int .i64 0,.slice none 0 0,.slice none 0 0,.int .i64 0] 38):=⟨_,rfl⟩
 have hBc:Blk wc wb.heap.size 38 #[.int .i64 0,.slice none 0 0,.slice none 0 0,.int .i64 0,.int .i64 0,.int .i64 0,.int .i64 0,.slice none 0 0,.slice none 0 0,.int .i64 0]:=by rw[hwc];exact Blk.new _ _ _
 have hRc:Res wc wb.heap.size 10:=hBc.res (by simp)
 have hAc:Ext wb wc:=by rw[hwc];exact hE.alloc _
 replace hE:=Ext.refl wc
 have Hsz2:Hid (wb.heap.size+1=wc.heap.size):=Lib.hid (by rw[hwc];simp[go_sem])
 have Hwc:=Lib.hid hwc
 clear hwc hBc
 have hgc:∀W,Ext wc W→Ints W v l:=fun W hW=>hg W (hAc.trans hW)
 have hbc:∀W,Ext wc W→W.cell? ⟨w.heap.size,0,none⟩=some v:=fun W hW=>hb W (hAc.trans hW)
 have hwc:wb.heap.size<wc.heap.size:=by have:=Hsz2.out;omega
 have Hgu:Hid (∀W,Ext wc W→Ints W u xs):=Lib.hid fun W hW=>hu.ext (hE0.trans (hAc.trans hW))
 cases hs:seqB l xs
 · have Hs:=Lib.hid (cq_no hs)
   go_enter Tryz.func17,Tryz.ntmps17
   go_wp2_with fail
   rw[←Hwb.out,←Hwc.out];rw[Hsz.out]
   refine (IsSequence_val _ _ _ _ _ (hgc _ hE) (Hgu.out _ hE) hs).mono ?_
   rintro e w1 ⟨rfl,hE1⟩
   have hr:=hRc.ext hE1
   unfold Res at hr
   go_wp2_with fail
   exact bodyPost_ret (v:=.tuple #[CV 0 (.slice none 0 0) (.slice none 0 0) 0 0 0 0 (.slice none 0 0) (.slice none 0 0) 0,.bool false]) (by simp[results,Tryz.results17,go_sem,hr,CV]) rfl ⟨_,_,_,_,by rw[Hs.out.1],by rw[Hs.out.2.1,Hs.out.2.2.1,Hs.out.2.2.2];exact⟨Own.nil _ _ _,Own.nil _ _ _,Own.nil _ _ _,Own.nil _ _ _,Apart.nil_left _,Apart.nil_left _,Apart.nil_left _,Apart.nil_left _,Apart.nil_left _,Apart.nil_left _⟩,hE0.trans (by (repeat (refine Ext.setCell ?_ (Nat.le_refl _) _));exact hAc.trans hE1)⟩
 · obtain⟨X,rfl,-,-,-,-⟩:=seqB_nat hs
   cases hz:szB l X
   · have Hs:=Lib.hid (cq_free hs hz)
     go_enter Tryz.func17,Tryz.ntmps17
     go_wp2_with fail
     rw[←Hwb.out,←Hwc.out];rw[Hsz.out]
     refine (IsSequence_val _ _ _ _ _ (hgc _ hE) (Hgu.out _ hE) hs).mono ?_
     rintro e w1 ⟨rfl,hE1⟩
     go_wp2_with fail
     refine (copyGroup_any _ _ _ (hgc _ hE1)).mono ?_
     rintro e w2 ⟨aoG,cG,rfl,hOG,hE'⟩
     have hG1:=hE1
     replace hE1:=hE1.trans hE'
     clear hE'
     go_wp2_with fail
     refine (Calls.sh (copyInts_any _ _ _ (Hgu.out _ hE1))).mono ?_
     rintro e w3 ⟨aoT,cT,rfl,hOT,hE'⟩
     have hT1:=hE1
     have hA:=apart_of hOG hOT (Nat.le_refl _)
     replace hOG:=hOG.ext hE'
     replace hE1:=hE1.trans hE'
     clear hE'
     have nG:=hOG.ne_of (b:=w3.heap.size) (Or.inr (Nat.le_refl _))
     have nT:=hOT.ne_of (b:=w3.heap.size) (Or.inr (Nat.le_refl _))
     have HnGT:=Lib.hid (And.intro nG nT)
     clear nG nT
     obtain⟨wD,hwD⟩:∃wD,wD=w3.alloc (.cells #[.int .i64 3,.slice aoG l.length cG,.slice none 0 0,.int .i64 0,.int .i64 0,.int .i64 0,.int .i64 0,.slice aoT (castL X).length cT,.slice none 0 0,.int .i64 0] 38):=⟨_,rfl⟩
     have hDx:Ext w3 wD:=by rw[hwD];exact (Ext.refl _).alloc _
     have BD:Blk wD w3.heap.size 38 #[.int .i64 3,.slice aoG l.length cG,.slice none 0 0,.int .i64 0,.int .i64 0,.int .i64 0,.int .i64 0,.slice aoT (castL X).length cT,.slice none 0 0,.int .i64 0]:=by rw[hwD];exact Blk.new _ _ _
     have HwD:=Lib.hid hwD
     clear hwD
     replace hOG:=hOG.ext hDx
     replace hOT:=hOT.ext hDx
     replace hE1:=hE1.trans hDx
     have kb:=hbc _ hE1
     rw[HwD.out] at kb
     go_wp2_with fail
     rw[←HwD.out]
     clear kb
     refine (ShortestZero_seq _ _ _ _ _ (hgc _ hE1) (Hgu.out _ hE1) hs).mono ?_
     rw[hz]
     rintro e w4 ⟨p,rfl,-,hE'⟩
     replace hOG:=hOG.ext hE'
     replace hOT:=hOT.ext hE'
     replace BD:=BD.ext hE'
     replace hE1:=hE1.trans hE'
     clear hE'
     have hr:=hRc.ext hE1
     unfold Res at hr
     have z0:=BD.cell (i:=0) rfl
     have z1:=BD.cell (i:=1) rfl
     have z2:=BD.cell (i:=2) rfl
     have z3:=BD.cell (i:=3) rfl
     have z4:=BD.cell (i:=4) rfl
     have z5:=BD.cell (i:=5) rfl
     have z6:=BD.cell (i:=6) rfl
     have z7:=BD.cell (i:=7) rfl
     have z8:=BD.cell (i:=8) rfl
     have z9:=BD.cell (i:=9) rfl
     go_wp2_with fail
     have hw1:wb.heap.size<w1.heap.size:=Nat.lt_of_lt_of_le hwc hG1.size
     have hw2:wb.heap.size<w2.heap.size:=Nat.lt_of_lt_of_le hwc hT1.size
     exact bodyPost_ret (v:=.tuple #[CV 3 (.slice aoG l.length cG) (.slice none 0 0) 0 0 0 0 (.slice aoT (castL X).length cT) (.slice none 0 0) 0,.bool true]) (by simp[results,Tryz.results17,go_sem,hr,CV]) rfl ⟨_,_,_,_,by rw[Hs.out.1],by
      rw[Hs.out.2.1,Hs.out.2.2.1,Hs.out.2.2.2]
      exact⟨(show Own 3 w1 _ _ _ by (repeat (refine Own.setCell_below ?_ hw1 _));exact hOG).mono (hE0.trans (hAc.trans hG1)),Own.nil _ _ _,(show Own 3 w2 _ _ _ by (repeat (refine Own.setCell_below ?_ hw2 _));exact hOT).mono (hE0.trans (hAc.trans hT1)),Own.nil _ _ _,Apart.nil_right _,hA,Apart.nil_right _,Apart.nil_left _,Apart.nil_left _,Apart.nil_right _⟩,
      hE0.trans (by (repeat (refine Ext.setCell ?_ (Nat.le_refl _) _));exact hAc.trans hE1)⟩
   · have Hs:=Lib.hid (cq_yes hs hz)
     go_enter Tryz.func17,Tryz.ntmps17
     go_wp2_with fail
     rw[←Hwb.out,←Hwc.out];rw[Hsz.out]
     refine (IsSequence_val _ _ _ _ _ (hgc _ hE) (Hgu.out _ hE) hs).mono ?_
     rintro e w1 ⟨rfl,hE1⟩
     go_wp2_with fail
     refine (copyGroup_any _ _ _ (hgc _ hE1)).mono ?_
     rintro e w2 ⟨aoG,cG,rfl,hOG,hE'⟩
     have hG1:=hE1
     replace hE1:=hE1.trans hE'
     clear hE'
     go_wp2_with fail
     refine (Calls.sh (copyInts_any _ _ _ (Hgu.out _ hE1))).mono ?_
     rintro e w3 ⟨aoT,cT,rfl,hOT,hE'⟩
     have hT1:=hE1
     have hA:=apart_of hOG hOT (Nat.le_refl _)
     replace hOG:=hOG.ext hE'
     replace hE1:=hE1.trans hE'
     clear hE'
     have nG:=hOG.ne_of (b:=w3.heap.size) (Or.inr (Nat.le_refl _))
     have nT:=hOT.ne_of (b:=w3.heap.size) (Or.inr (Nat.le_refl _))
     have HnGT:=Lib.hid (And.intro nG nT)
     clear nG nT
     obtain⟨wD,hwD⟩:∃wD,wD=w3.alloc (.cells #[.int .i64 3,.slice aoG l.length cG,.slice none 0 0,.int .i64 0,.int .i64 0,.int .i64 0,.int .i64 0,.slice aoT (castL X).length cT,.slice none 0 0,.int .i64 0] 38):=⟨_,rfl⟩
     have hDx:Ext w3 wD:=by rw[hwD];exact (Ext.refl _).alloc _
     have BD:Blk wD w3.heap.size 38 #[.int .i64 3,.slice aoG l.length cG,.slice none 0 0,.int .i64 0,.int .i64 0,.int .i64 0,.int .i64 0,.slice aoT (castL X).length cT,.slice none 0 0,.int .i64 0]:=by rw[hwD];exact Blk.new _ _ _
     have HwD:=Lib.hid hwD
     clear hwD
     have hE3:=hE1
     replace hOG:=hOG.ext hDx
     replace hOT:=hOT.ext hDx
     replace hE1:=hE1.trans hDx
     have kb:=hbc _ hE1
     rw[HwD.out] at kb
     go_wp2_with fail
     rw[←HwD.out]
     clear kb
     refine (ShortestZero_seq _ _ _ _ _ (hgc _ hE1) (Hgu.out _ hE1) hs).mono ?_
     rw[hz]
     rintro e w4 ⟨p,rfl,hOP,hE'⟩
     obtain⟨aoP,cP,rfl,-⟩:=hOP.shape
     have hP1:=hE1
     have hGP:=apart_of hOG hOP (Nat.le_refl _)
     have hTP:=apart_of hOT hOP (Nat.le_refl _)
     replace hOG:=hOG.ext hE'
     replace hOT:=hOT.ext hE'
     replace BD:=BD.ext hE'
     replace hE1:=hE1.trans hE'
     clear hE'
     have hr:=hRc.ext hE1
     unfold Res at hr
     have z0:=BD.cell (i:=0) rfl
     have z1:=BD.cell (i:=1) rfl
     have z2:=BD.cell (i:=2) rfl
     have z3:=BD.cell (i:=3) rfl
     have z4:=BD.cell (i:=4) rfl
     have z5:=BD.cell (i:=5) rfl
     have z6:=BD.cell (i:=6) rfl
     have z7:=BD.cell (i:=7) rfl
     have z8:=BD.cell (i:=8) rfl
     have z9:=BD.cell (i:=9) rfl
     have f0:=BD.free 0
     have f8:=BD.free 8
     have hne:¬wb.heap.size=w3.heap.size:=by have:=hE3.size;omega
     have hne':¬w3.heap.size=wb.heap.size:=by omega
     go_wp2_with fail
     have hw1:wb.heap.size<w1.heap.size:=Nat.lt_of_lt_of_le hwc hG1.size
     have hw2:wb.heap.size<w2.heap.size:=Nat.lt_of_lt_of_le hwc hT1.size
     have hwD:wb.heap.size<wD.heap.size:=Nat.lt_of_lt_of_le hwc hP1.size
     have h3D:w3.heap.size<wD.heap.size:=by rw[HwD.out];simp
     have nP:=hOP.ne_of (b:=w3.heap.size) (Or.inl h3D)
     exact bodyPost_ret (v:=.tuple #[CV 2 (.slice aoG l.length cG) (.slice none 0 0) 0 0 0 0 (.slice aoT (castL X).length cT) (.slice aoP (castL (szR l X)).length cP) 0,.bool true]) (by simp[results,Tryz.results17,go_sem,hr,CV]) rfl ⟨_,_,_,_,by rw[Hs.out.1],by
      rw[Hs.out.2.1,Hs.out.2.2.1,Hs.out.2.2.2]
      exact⟨(show Own 3 w1 _ _ _ by (repeat (first | refine Own.setCell_below ?_ hw1 _ | refine Own.setCell_ne ?_ HnGT.out.1 _));exact hOG).mono (hE0.trans (hAc.trans hG1)),Own.nil _ _ _,(show Own 3 w2 _ _ _ by (repeat (first | refine Own.setCell_below ?_ hw2 _ | refine Own.setCell_ne ?_ HnGT.out.2 _));exact hOT).mono (hE0.trans (hAc.trans hT1)),(show Own 3 wD _ _ _ by (repeat (first | refine Own.setCell_below ?_ hwD _ | refine Own.setCell_ne ?_ nP _));exact hOP).mono (hE0.trans (hAc.trans hP1)),Apart.nil_right _,hA,hGP,Apart.nil_left _,Apart.nil_left _,hTP⟩,
      hE0.trans (by (repeat (refine Ext.setCell ?_ (by first | exact Nat.le_refl _ | (simp only[];have:=hE3.size;omega)) _));exact hAc.trans hE1)⟩
end Go.Zz
