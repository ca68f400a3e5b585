/- Colorings: whether the last number is a sum of two of its color; the search of the reference. -/
import Derived.Test.YtdlbbpeahicakaaGreatGr2
import Derived.Test.YtdlbbpeahicakaaGreatGr5
import Derived.Test.YtdlbbpeahicakaaGreatGr1
import Derived.Laws.EntriesVeiled
import Derived.Test.YtdlbbpeahicakaaGreatGr10
import Derived.Test.YtdlbbpeahicakaaGreatGr3
namespace Go.Zz
open Go.RowKit Go.Proofs
set_option maxHeartbeats 1000000
set_option maxRecDepth 4000
theorem fits_any(v:Value)(c:List Int)(w:World)(h:Ints w v c)(hn:c.length≤1000) :
 Calls Tryz.prog 184 #[v] w fun e w'=>e=.returned (.bool (! (badF c)))∧Ext w w':=by
 obtain⟨ao,k,adr,rfl,hlen,hadr,hcell⟩:=h.op
 have hix:=ints_index (c:=k) elI szI hadr
 clear hadr h
 go_enter Tryz.func184,Tryz.ntmps184
 go_wp2_with fail
 go_loopw [4] (fun i wr=>∃x:Nat,1≤x∧2*x≤c.length+2∧i=.int .i64 x∧(∀y,1≤y→y<x→eqAt c y=false)∧Ext w wr) (fun i _=>c.length+2 - (intOf i).toNat)
 case atStart=>exact⟨1,by omega,by omega,rfl,by omega,Ext.refl _⟩
 case round =>
  obtain⟨x,hx1,hx2,rfl,hall,hE⟩:=hrel
  have Hall:=Lib.hid hall
  clear hall
  by_cases hlt:2*x≤c.length
  · have hc1:=fun U=>hcell (x - 1) _ (by omega) (lat_ext w U)
    have hc2:=fun U=>hcell (c.length - 1) _ (by omega) (lat_ext w U)
    have hc3:=fun U=>hcell (c.length - x - 1) _ (by omega) (lat_ext w U)
    have ix1:∀W,(Instr.indexAt 22 (.slice ao c.length k) (.int .i64 ((x:Int) - 1))).run Tryz.prog W=.ok (.pointer (some (adr (x - 1)))) W:=fun W=>by rw[show ((x:Int) - 1)=((x - 1:Nat):Int) by omega];exact hix _ W (by omega)
    have ix2:∀W,(Instr.indexAt 22 (.slice ao c.length k) (.int .i64 ((c.length:Int) - 1))).run Tryz.prog W=.ok (.pointer (some (adr (c.length - 1)))) W:=fun W=>by rw[show ((c.length:Int) - 1)=((c.length - 1:Nat):Int) by omega];exact hix _ W (by omega)
    have ix3:∀W,(Instr.indexAt 22 (.slice ao c.length k) (.int .i64 ((c.length:Int) - (x:Int) - 1))).run Tryz.prog W=.ok (.pointer (some (adr (c.length - x - 1)))) W:=fun W=>by rw[show ((c.length:Int) - (x:Int) - 1)=((c.length - x - 1:Nat):Int) by omega];exact hix _ W (by omega)
    have hg1:(1:Int)≤(c.length:Int) - (x:Int):=by omega
    have hg2:(x:Int)<(c.length:Int):=by omega
    have hg3:(2:Int)*(x:Int)≤(c.length:Int):=by omega
    clear hix hcell
    cases e1:(nth c (x - 1) == nth c (c.length - 1))
    · have He:=Lib.hid (eqAt_no1 e1)
      go_wp2_with fail
      (refine wp_region_lat (w) (by kernel_rfl) (by kernel_rfl) hE ?_);(repeat (go_big_quiet_step (first | fail)));(refine wpQuiet_nil ?_);(intro W hE');(replace hE:=lat_of hE');(clear hE')
      go_wp2_with fail
      go_roundw
      case rel=>exact⟨x+1,by omega,by omega,by go_num,fun y hy1 hy2=>by by_cases e:y=x;(subst e;exact He.out);exact Hall.out y hy1 (by omega),hE⟩
      case measure=>(simp[intOf];omega)
    · cases e2:(nth c (c.length - x - 1) == nth c (c.length - 1))
      · have He:=Lib.hid ((eqAt_yes1 e1).trans e2)
        go_wp2_with fail
        (refine wp_region_lat (w) (by kernel_rfl) (by kernel_rfl) hE ?_);(repeat (go_big_quiet_step (first | fail)));(refine wpQuiet_nil ?_);(intro W hE');(replace hE:=lat_of hE');(clear hE')
        go_wp2_with fail
        go_roundw
        case rel=>exact⟨x+1,by omega,by omega,by go_num,fun y hy1 hy2=>by by_cases e:y=x;(subst e;exact He.out);exact Hall.out y hy1 (by omega),hE⟩
        case measure=>(simp[intOf];omega)
      · have He:=Lib.hid (badF_yes hx1 hlt ((eqAt_yes1 e1).trans e2))
        go_wp2_with fail
        (refine wp_region_lat (w) (by kernel_rfl) (by kernel_rfl) hE ?_);(repeat (go_big_quiet_step (first | fail)));(refine wpQuiet_nil ?_);(intro W hE');(replace hE:=lat_of hE');(clear hE')
        go_wp2_with fail
        go_ret
        exact⟨ret_bool (by rw[He.out];rfl),hE⟩
  · have He:=Lib.hid (badF_no (c:=c) (n:=x) (by omega) Hall.out)
    clear hix hcell
    go_wp2_with fail
    go_ret
    exact⟨ret_bool (by rw[He.out];rfl),hE⟩
theorem sBad_any(v:Value)(c:List Int)(w:World)(h:Ints w v c)(hn:c.length≤1000) :
 Calls Tryz.prog 214 #[v] w fun e w'=>e=.returned (.bool (id (badF c)))∧Ext w w':=by
 obtain⟨ao,k,adr,rfl,hlen,hadr,hcell⟩:=h.op
 have hix:=ints_index (c:=k) elI szI hadr
 clear hadr h
 go_enter Tryz.func214,Tryz.ntmps214
 go_wp2_with fail
 go_loopw [4] (fun i wr=>∃x:Nat,1≤x∧2*x≤c.length+2∧i=.int .i64 x∧(∀y,1≤y→y<x→eqAt c y=false)∧Ext w wr) (fun i _=>c.length+2 - (intOf i).toNat)
 case atStart=>exact⟨1,by omega,by omega,rfl,by omega,Ext.refl _⟩
 case round =>
  obtain⟨x,hx1,hx2,rfl,hall,hE⟩:=hrel
  have Hall:=Lib.hid hall
  clear hall
  by_cases hlt:2*x≤c.length
  · have hc1:=fun U=>hcell (x - 1) _ (by omega) (lat_ext w U)
    have hc2:=fun U=>hcell (c.length - 1) _ (by omega) (lat_ext w U)
    have hc3:=fun U=>hcell (c.length - x - 1) _ (by omega) (lat_ext w U)
    have ix1:∀W,(Instr.indexAt 22 (.slice ao c.length k) (.int .i64 ((x:Int) - 1))).run Tryz.prog W=.ok (.pointer (some (adr (x - 1)))) W:=fun W=>by rw[show ((x:Int) - 1)=((x - 1:Nat):Int) by omega];exact hix _ W (by omega)
    have ix2:∀W,(Instr.indexAt 22 (.slice ao c.length k) (.int .i64 ((c.length:Int) - 1))).run Tryz.prog W=.ok (.pointer (some (adr (c.length - 1)))) W:=fun W=>by rw[show ((c.length:Int) - 1)=((c.length - 1:Nat):Int) by omega];exact hix _ W (by omega)
    have ix3:∀W,(Instr.indexAt 22 (.slice ao c.length k) (.int .i64 ((c.length:Int) - (x:Int) - 1))).run Tryz.prog W=.ok (.pointer (some (adr (c.length - x - 1)))) W:=fun W=>by rw[show ((c.length:Int) - (x:Int) - 1)=((c.length - x - 1:Nat):Int) by omega];exact hix _ W (by omega)
    have hg1:(1:Int)≤(c.length:Int) - (x:Int):=by omega
    have hg2:(x:Int)<(c.length:Int):=by omega
    have hg3:(2:Int)*(x:Int)≤(c.length:Int):=by omega
    clear hix hcell
    cases e1:(nth c (x - 1) == nth c (c.length - 1))
    · have He:=Lib.hid (eqAt_no1 e1)
      go_wp2_with fail
      (refine wp_region_lat (w) (by kernel_rfl) (by kernel_rfl) hE ?_);(repeat (go_big_quiet_step (first | fail)));(refine wpQuiet_nil ?_);(intro W hE');(replace hE:=lat_of hE');(clear hE')
      go_wp2_with fail
      go_roundw
      case rel=>exact⟨x+1,by omega,by omega,by go_num,fun y hy1 hy2=>by by_cases e:y=x;(subst e;exact He.out);exact Hall.out y hy1 (by omega),hE⟩
      case measure=>(simp[intOf];omega)
    · cases e2:(nth c (c.length - x - 1) == nth c (c.length - 1))
      · have He:=Lib.hid ((eqAt_yes1 e1).trans e2)
        go_wp2_with fail
        (refine wp_region_lat (w) (by kernel_rfl) (by kernel_rfl) hE ?_);(repeat (go_big_quiet_step (first | fail)));(refine wpQuiet_nil ?_);(intro W hE');(replace hE:=lat_of hE');(clear hE')
        go_wp2_with fail
        go_roundw
        case rel=>exact⟨x+1,by omega,by omega,by go_num,fun y hy1 hy2=>by by_cases e:y=x;(subst e;exact He.out);exact Hall.out y hy1 (by omega),hE⟩
        case measure=>(simp[intOf];omega)
      · have He:=Lib.hid (badF_yes hx1 hlt ((eqAt_yes1 e1).trans e2))
        go_wp2_with fail
        (refine wp_region_lat (w) (by kernel_rfl) (by kernel_rfl) hE ?_);(repeat (go_big_quiet_step (first | fail)));(refine wpQuiet_nil ?_);(intro W hE');(replace hE:=lat_of hE');(clear hE')
        go_wp2_with fail
        go_ret
        exact⟨ret_bool (by rw[He.out];rfl),hE⟩
  · have He:=Lib.hid (badF_no (c:=c) (n:=x) (by omega) Hall.out)
    clear hix hcell
    go_wp2_with fail
    go_ret
    exact⟨ret_bool (by rw[He.out];rfl),hE⟩
end Go.Zz
namespace Go.Zz
open Go.RowKit Go.Proofs
set_option maxHeartbeats 2000000
set_option maxRecDepth 4000
theorem sLong_any(k:Nat)(hk:k≤3):∀(f:Nat) (c:List Int) (u:Nat) (v:Value) (W0 w:World),colT f k c u=true→u≤3→c.length+f≤20→Own 3 W0 w v c→Ext W0 w →
 Calls Tryz.prog 185 #[v,.int .i64 k,.int .i64 u] w fun e w'=>∃v',e=.returned v'∧Own 3 W0 w' v' (colS f k c u)∧Ext w w':=by
 intro f
 induction f with
 | zero=>intro c u v W0 w h;exact absurd h (by simp[colT])
 | succ f ih =>
  intro c u v W0 w hT hu hl hOc hE0
  obtain⟨ao,cc,rfl,-⟩:=hOc.shape
  have HT:=Lib.hid hT
  have Hih:=Lib.hid ih
  clear hT ih
  go_enter Tryz.func185,Tryz.ntmps185
  go_wp2_with fail
  go_loopw [7,8] (fun bv xv wr=>∃n:Nat,n≤k∧n≤u+1∧xv=.int .i64 n∧Own 3 W0 wr bv (colSto f k c u n)∧Ext w wr) (fun _ x _=>k - (intOf x).toNat)
  case atStart=>exact⟨0,by omega,by omega,rfl,hOc,Ext.refl _⟩
  case round =>
   obtain⟨n,hn1,hn2,rfl,hO,hEr⟩:=hrel
   obtain⟨ab,cb,rfl,-⟩:=hO.shape
   have HO:=Lib.hid hO
   by_cases hlt:n<k∧n≤u
   · obtain⟨hlt,hle⟩:=hlt
     have hI:=(hOc.ext hEr).ints
     have hO0:=own_made (TI:=3) (n:=0) (by omega) (Ext.refl wr) [] rfl
     have hE00:=(Ext.refl wr).alloc (.cells #[] 3)
     have hI0:=hI.ext hE00
     have hlen:c.length<17592186044416:=by omega
     have hlen0:([]:List Int).length+c.length≤17592186044416:=by simp;omega
     have hl1:(c++[(n:Int)]).length=c.length+1:=by simp
     clear hI hO
     obtain⟨B,hB⟩:∃B,B=colSto f k c u n:=⟨_,rfl⟩
     rw[←hB] at HO ⊢
     cases hb:badF (c++[(n:Int)])
     · have hT':=colT_next HT.out hlt hle hb
       obtain⟨Y,hY⟩:∃Y,Y=colS f k (c++[(n:Int)]) (max u (n+1)):=⟨_,rfl⟩
       have hcB:=fun v W (hv:Ints W v (c++[(n:Int)]))=>sBad_any v _ W hv (by omega)
       rw[hb] at hcB
       have hcL0:=fun v W hO hE=>Hih.out (c++[(n:Int)]) (max u (n+1)) v W0 W hT' (by omega) (by omega) hO hE
       rw[←hY] at hcL0
       have Hmore:Hid (B.length<Y.length→colSto f k c u (n+1)=Y):=Lib.hid fun h=>by rw[hB,hY] at h;rw[hY];exact colSto_more hb h
       have Hless:Hid (¬B.length<Y.length→colSto f k c u (n+1)=B):=Lib.hid fun h=>by rw[hB,hY] at h;rw[hB];exact colSto_less hb h
       clear hB hY hb hT'
       have hcL:∀(v:Value) (W:World),Own 3 W0 W v (c++[(n:Int)])→Ext W0 W→Calls Tryz.prog 185 #[v,.int .i64 k,.int .i64 (if (u:Int)<(n:Int)+1 then (n:Int)+1 else u)] W fun e w'=>∃v',e=.returned v'∧Own 3 W0 w' v' Y∧Ext W w':=by
        intro v W a b
        have:=hcL0 v W a b
        split
        · rw[show max u (n+1)=n+1 by omega] at this;exact this
        · rw[show max u (n+1)=u by omega] at this;exact this
       clear hcL0
       by_cases hm:(u:Int)<(n:Int)+1
       · rw[if_pos hm] at hcL
         by_cases hq:B.length<Y.length
         ·
            go_wp2_with (first
             | (at_builtin;refine wp_append1 slI rfl _ _ rfl wr _ _ _ _ hO1 hE1 hlen rfl rfl ?_;intro v2 w2 hO2 hE2)
             | (at_builtin;refine wp_appends slI rfl _ _ rfl wr _ _ _ _ _ hO0 hI0 hE00 hlen0 rfl rfl ?_;intro v1 w1 hO1 hE1;simp only[List.nil_append] at hO1)
             | (go_at_call 214;refine (hcB _ _ hO2.ints).mono ?_;rintro e w3 ⟨rfl,hE3⟩)
             | (go_at_call 185;refine (hcL _ _ ((hO2.ext hE3).mono (hE0.trans hEr)) ((hE0.trans hEr).trans (hE2.trans hE3))).mono ?_;rintro e w4 ⟨v4,rfl,hO4,hE4⟩;obtain⟨a4,c4,rfl,-⟩:=hO4.shape))
            go_roundw
            case rel=>exact⟨n+1,by omega,by omega,by go_num,by rw[Hmore.out hq];exact hO4,hEr.trans (hE2.trans (hE3.trans hE4))⟩
            case measure=>(simp[intOf];omega)
         ·
            go_wp2_with (first
             | (at_builtin;refine wp_append1 slI rfl _ _ rfl wr _ _ _ _ hO1 hE1 hlen rfl rfl ?_;intro v2 w2 hO2 hE2)
             | (at_builtin;refine wp_appends slI rfl _ _ rfl wr _ _ _ _ _ hO0 hI0 hE00 hlen0 rfl rfl ?_;intro v1 w1 hO1 hE1;simp only[List.nil_append] at hO1)
             | (go_at_call 214;refine (hcB _ _ hO2.ints).mono ?_;rintro e w3 ⟨rfl,hE3⟩)
             | (go_at_call 185;refine (hcL _ _ ((hO2.ext hE3).mono (hE0.trans hEr)) ((hE0.trans hEr).trans (hE2.trans hE3))).mono ?_;rintro e w4 ⟨v4,rfl,hO4,hE4⟩;obtain⟨a4,c4,rfl,-⟩:=hO4.shape))
            go_roundw
            case rel=>exact⟨n+1,by omega,by omega,by go_num,by rw[Hless.out hq];exact HO.out.ext (hE2.trans (hE3.trans hE4)),hEr.trans (hE2.trans (hE3.trans hE4))⟩
            case measure=>(simp[intOf];omega)
       · rw[if_neg hm] at hcL
         by_cases hq:B.length<Y.length
         ·
            go_wp2_with (first
             | (at_builtin;refine wp_append1 slI rfl _ _ rfl wr _ _ _ _ hO1 hE1 hlen rfl rfl ?_;intro v2 w2 hO2 hE2)
             | (at_builtin;refine wp_appends slI rfl _ _ rfl wr _ _ _ _ _ hO0 hI0 hE00 hlen0 rfl rfl ?_;intro v1 w1 hO1 hE1;simp only[List.nil_append] at hO1)
             | (go_at_call 214;refine (hcB _ _ hO2.ints).mono ?_;rintro e w3 ⟨rfl,hE3⟩)
             | (go_at_call 185;refine (hcL _ _ ((hO2.ext hE3).mono (hE0.trans hEr)) ((hE0.trans hEr).trans (hE2.trans hE3))).mono ?_;rintro e w4 ⟨v4,rfl,hO4,hE4⟩;obtain⟨a4,c4,rfl,-⟩:=hO4.shape))
            go_roundw
            case rel=>exact⟨n+1,by omega,by omega,by go_num,by rw[Hmore.out hq];exact hO4,hEr.trans (hE2.trans (hE3.trans hE4))⟩
            case measure=>(simp[intOf];omega)
         ·
            go_wp2_with (first
             | (at_builtin;refine wp_append1 slI rfl _ _ rfl wr _ _ _ _ hO1 hE1 hlen rfl rfl ?_;intro v2 w2 hO2 hE2)
             | (at_builtin;refine wp_appends slI rfl _ _ rfl wr _ _ _ _ _ hO0 hI0 hE00 hlen0 rfl rfl ?_;intro v1 w1 hO1 hE1;simp only[List.nil_append] at hO1)
             | (go_at_call 214;refine (hcB _ _ hO2.ints).mono ?_;rintro e w3 ⟨rfl,hE3⟩)
             | (go_at_call 185;refine (hcL _ _ ((hO2.ext hE3).mono (hE0.trans hEr)) ((hE0.trans hEr).trans (hE2.trans hE3))).mono ?_;rintro e w4 ⟨v4,rfl,hO4,hE4⟩;obtain⟨a4,c4,rfl,-⟩:=hO4.shape))
            go_roundw
            case rel=>exact⟨n+1,by omega,by omega,by go_num,by rw[Hless.out hq];exact HO.out.ext (hE2.trans (hE3.trans hE4)),hEr.trans (hE2.trans (hE3.trans hE4))⟩
            case measure=>(simp[intOf];omega)
     · have hcB:=fun v W (hv:Ints W v (c++[(n:Int)]))=>sBad_any v _ W hv (by omega)
       rw[hb] at hcB
       have He:Hid (colSto f k c u (n+1)=B):=Lib.hid (by rw[hB];exact colSto_bad hb)
       clear hB hb
       go_wp2_with (first
        | (at_builtin;refine wp_append1 slI rfl _ _ rfl wr _ _ _ _ hO1 hE1 hlen rfl rfl ?_;intro v2 w2 hO2 hE2)
        | (at_builtin;refine wp_appends slI rfl _ _ rfl wr _ _ _ _ _ hO0 hI0 hE00 hlen0 rfl rfl ?_;intro v1 w1 hO1 hE1;simp only[List.nil_append] at hO1)
        | (go_at_call 214;refine (hcB _ _ hO2.ints).mono ?_;rintro e w3 ⟨rfl,hE3⟩))
       go_roundw
       case rel=>exact⟨n+1,by omega,by omega,by go_num,by rw[He.out];exact HO.out.ext (hE2.trans hE3),hEr.trans (hE2.trans hE3)⟩
       case measure=>(simp[intOf];omega)
   · have He:Hid (colS (f+1) k c u=colSto f k c u n):=Lib.hid (by rw[colS_succ,show min k (u+1)=n by omega])
     clear hO
     by_cases h1:n<k
     · have h2:¬n≤u:=by omega
       clear hlt
       go_wp2_with fail
       go_ret
       exact⟨_,rfl,by rw[He.out];exact HO.out,hEr⟩
     · clear hlt
       go_wp2_with fail
       go_ret
       exact⟨_,rfl,by rw[He.out];exact HO.out,hEr⟩
end Go.Zz
namespace Go.Zz
open Go.RowKit Go.Proofs
set_option maxHeartbeats 2000000
set_option maxRecDepth 4000
theorem Ext.grow{w w':World}(h:Ext w w')(b:Option Nat):w.grownBy w' b:=⟨h.os,h.tape,h.output,h.size,fun k hk _=>h.block k hk⟩
theorem grow_set(w:World)(b i:Nat)(v:Value):w.grownBy (w.setCell ⟨b,i,none⟩ v) (some b) :=
 ⟨rfl,rfl,rfl,by simp,fun k hk hne=>Below.heap_setCell _ _ _ _ (fun e=>hne (by rw[e]))⟩
theorem Own.kept_ne{TI:TypeId}{w0 w w':World}{v:Value}{l:List Int}{b:Nat}(h:Own TI w0 w v l)(hg:w.grownBy w' (some b))(hn:v.ownBlock≠some b):Own TI w0 w' v l:=h.kept hg (Or.inr hn)
theorem own_ne{TI:TypeId}{w0 w:World}{v:Value}{l:List Int}{b:Nat}(h:Own TI w0 w v l)(hb:b<w0.heap.size):v.ownBlock≠some b:=fun e=>by have:=(h.blk b e).1;omega
theorem Blk.grown_ne{w w':World}{b b':Nat}{T:TypeId}{cs:Array Value}(h:Blk w b' T cs)(hg:w.grownBy w' (some b))(hn:b≠b'):Blk w' b' T cs:=h.grown hg (fun k hk=>by cases hk;exact hn)
theorem try_any(k:Nat)(hk:k≤3)(bB bK bT:Nat)(hbk:bB≠bK)(hbt:bB≠bT):∀(f:Nat) (c:List Int) (u:Nat) (v:Value) (W0 w:World) (b:List Int) (vb:Value),colT f k c u=true→u≤3→c.length+f≤20→Own 3 W0 w v c→v.ownBlock≠some bB →
 Blk w bB 22 #[vb]→Own 3 W0 w vb b→vb.ownBlock≠some bB→Blk w bK 3 #[.int .i64 k]→Blk w bT 132 #[.func (.func 183) #[] #[.pointer (some ⟨bB,0,none⟩),.pointer (some ⟨bK,0,none⟩),.pointer (some ⟨bT,0,none⟩)]]→W0.heap.size≤bB→Ext W0 w →
 Calls Tryz.prog 183 #[v,.int .i64 u,.pointer (some ⟨bB,0,none⟩),.pointer (some ⟨bK,0,none⟩),.pointer (some ⟨bT,0,none⟩)] w fun e w'=>e=.returned (.tuple #[])∧∃v',Blk w' bB 22 #[v']∧Own 3 W0 w' v' (colI f k c u b)∧v'.ownBlock≠some bB∧w.grownBy w' (some bB):=by
 intro f
 induction f with
 | zero=>intro c u v W0 w b vb h;exact absurd h (by simp[colT])
 | succ f ih =>
  intro c u v W0 w b vb hT hu hl hOc hNc hBb hOb hNb hBk hBt hb0 hE0
  obtain⟨ao,cc,rfl,-⟩:=hOc.shape
  obtain⟨ab,cb,rfl,-⟩:=hOb.shape
  have HT:=Lib.hid hT
  have Hih:=Lib.hid ih
  have hx:=hBb.cell (i:=0) (v:=.slice ab b.length cb) rfl
  have hf:=hBb.free 0
  clear hT ih
  by_cases hq:b.length<c.length
  · have hG0:=grow_set w bB 0 (.slice ao c.length cc)
    have HB0:Hid (Blk (w.setCell ⟨bB,0,none⟩ (.slice ao c.length cc)) bB 22 #[.slice ao c.length cc]):=Lib.hid (hBb.set 0 _)
    have HO0:Hid (Own 3 W0 (w.setCell ⟨bB,0,none⟩ (.slice ao c.length cc)) (.slice ao c.length cc) (colIto f k c u b 0)):=Lib.hid (by rw[colIto_zero_t hq];exact hOc.kept_ne hG0 hNc)
    have HN0:=Lib.hid hNc
    have HG0:=Lib.hid hG0
    clear hG0 hBb hOb
    go_enter Tryz.func183,Tryz.ntmps183
    go_wp2_with fail
    clear hx hf
    go_loopw [7] (fun xv wr=>∃(n:Nat) (vb:Value),n≤k∧n≤u+1∧xv=.int .i64 n∧Blk wr bB 22 #[vb]∧Own 3 W0 wr vb (colIto f k c u b n)∧vb.ownBlock≠some bB∧w.grownBy wr (some bB)) (fun x _=>k - (intOf x).toNat)
    case atStart=>exact⟨0,.slice ao c.length cc,by omega,by omega,rfl,HB0.out,HO0.out,HN0.out,HG0.out⟩
    case round =>
     obtain⟨n,vb,hn1,hn2,rfl,hBb,hO,hN,hG⟩:=hrel
     clear HB0 HO0 HN0 HG0
     have hOc':=hOc.kept_ne hG hNc
     have hBk':=hBk.grown_ne hG hbk
     have hBt':=hBt.grown_ne hG hbt
     have hE0':Ext W0 wr:=hE0.grown hG (fun j hj=>by cases hj;exact hb0)
     have hszb:=hBb.lt
     have ck:=hBk'.cell (i:=0) (v:=.int .i64 k) rfl
     have HO:=Lib.hid hO
     have HBb:=Lib.hid hBb
     have HN:=Lib.hid hN
     have HG:=Lib.hid hG
     clear hO hBb hN hG
     by_cases hlt:n<k∧n≤u
     · obtain⟨hlt,hle⟩:=hlt
       have hI:=hOc'.ints
       have hlen:c.length<17592186044416:=by omega
       have hl1:(c++[(n:Int)]).length=c.length+1:=by simp
       clear hOc'
       cases hb:badF (c++[(n:Int)])
       · have hT':=colT_next HT.out hlt hle hb
         have hcB:=fun v W (hv:Ints W v (c++[(n:Int)]))=>fits_any v _ W hv (by omega)
         rw[hb] at hcB
         have He:=Lib.hid (colIto_next (f:=f) (k:=k) (u:=u) (b:=b) hb)
         have hcL0:=fun v W b' vb' (h1:Own 3 W0 W v (c++[(n:Int)])) (h2:v.ownBlock≠some bB) (h3:Blk W bB 22 #[vb']) (h4:Own 3 W0 W vb' b') (h5:vb'.ownBlock≠some bB) (h6:Blk W bK 3 #[.int .i64 k]) (h7:Blk W bT 132 #[.func (.func 183) #[] #[.pointer (some ⟨bB,0,none⟩),.pointer (some ⟨bK,0,none⟩),.pointer (some ⟨bT,0,none⟩)]]) (h8:Ext W0 W)=>Hih.out (c++[(n:Int)]) (max u (n+1)) v W0 W b' vb' hT' (by omega) (by omega) h1 h2 h3 h4 h5 h6 h7 hb0 h8
         have hcL:∀(v:Value) (W:World) (b':List Int) (vb':Value),Own 3 W0 W v (c++[(n:Int)])→v.ownBlock≠some bB→Blk W bB 22 #[vb']→Own 3 W0 W vb' b'→vb'.ownBlock≠some bB→Blk W bK 3 #[.int .i64 k]→Blk W bT 132 #[.func (.func 183) #[] #[.pointer (some ⟨bB,0,none⟩),.pointer (some ⟨bK,0,none⟩),.pointer (some ⟨bT,0,none⟩)]]→Ext W0 W →
          Calls Tryz.prog 183 #[v,.int .i64 (if (u:Int)<(n:Int)+1 then (n:Int)+1 else u),.pointer (some ⟨bB,0,none⟩),.pointer (some ⟨bK,0,none⟩),.pointer (some ⟨bT,0,none⟩)] W fun e w'=>e=.returned (.tuple #[])∧∃v',Blk w' bB 22 #[v']∧Own 3 W0 w' v' (colI f k (c++[(n:Int)]) (max u (n+1)) b')∧v'.ownBlock≠some bB∧W.grownBy w' (some bB):=by
          intro v W b' vb' h1 h2 h3 h4 h5 h6 h7 h8
          have:=hcL0 v W b' vb' h1 h2 h3 h4 h5 h6 h7 h8
          split
          · rw[show max u (n+1)=n+1 by omega] at this ⊢;exact this
          · rw[show max u (n+1)=u by omega] at this ⊢;exact this
         have kt:∀W,Ext wr W→W.cell? ⟨bT,0,none⟩=some (.func (.func 183) #[] #[.pointer (some ⟨bB,0,none⟩),.pointer (some ⟨bK,0,none⟩),.pointer (some ⟨bT,0,none⟩)]):=fun W hW=>(hBt'.ext hW).cell (i:=0) rfl
         clear hcL0 hb hT'
         by_cases hm:(u:Int)<(n:Int)+1
         all_goals
          first | rw[if_pos hm] at hcL | rw[if_neg hm] at hcL
          go_wp2_with (first
           | (go_at_call 86;refine (Calls.sh (copyInts_any _ _ _ hI)).mono ?_;rintro e w1 ⟨ao1,c1,rfl,hO1,hE1⟩)
           | (at_builtin;refine wp_append1 slI rfl _ _ rfl wr _ _ _ _ hO1 hE1 hlen rfl rfl ?_;intro v2 w2 hO2 hE2)
           | (go_at_call 184;refine (hcB _ _ hO2.ints).mono ?_;rintro e w3 ⟨rfl,hE3⟩;have hE23:=hE2.trans hE3)
           | (go_at_call 183;refine (hcL _ _ _ vb ((hO2.ext hE3).mono hE0') (own_ne hO2 hszb) (HBb.out.ext hE23) (HO.out.ext hE23) HN.out (hBk'.ext hE23) (hBt'.ext hE23) (hE0'.trans hE23)).mono ?_;rintro e w4 ⟨rfl,v4,hB4,hO4,hN4,hG4⟩))
          go_roundw
          case rel=>exact⟨n+1,v4,by omega,by omega,by go_num,hB4,by rw[He.out];exact hO4,hN4,grownBy_trans (grownBy_trans HG.out (hE23.grow _)) hG4⟩
          case measure=>(simp[intOf];omega)
       · have hcB:=fun v W (hv:Ints W v (c++[(n:Int)]))=>fits_any v _ W hv (by omega)
         rw[hb] at hcB
         have He:=Lib.hid (colIto_bad (f:=f) (k:=k) (u:=u) (b:=b) hb)
         clear hb
         go_wp2_with (first
          | (go_at_call 86;refine (Calls.sh (copyInts_any _ _ _ hI)).mono ?_;rintro e w1 ⟨ao1,c1,rfl,hO1,hE1⟩)
          | (at_builtin;refine wp_append1 slI rfl _ _ rfl wr _ _ _ _ hO1 hE1 hlen rfl rfl ?_;intro v2 w2 hO2 hE2)
          | (go_at_call 184;refine (hcB _ _ hO2.ints).mono ?_;rintro e w3 ⟨rfl,hE3⟩;have hE23:=hE2.trans hE3))
         go_roundw
         case rel=>exact⟨n+1,vb,by omega,by omega,by go_num,HBb.out.ext hE23,by rw[He.out];exact HO.out.ext hE23,HN.out,grownBy_trans HG.out (hE23.grow _)⟩
         case measure=>(simp[intOf];omega)
     · have He:Hid (colI (f+1) k c u b=colIto f k c u b n):=Lib.hid (by rw[colI_succ,show min k (u+1)=n by omega])
       clear hOc'
       by_cases h1:n<k
       all_goals
        have h2:n<k→¬n≤u:=by omega
        try replace h2:=h2 h1
        clear hlt
        go_wp2_with fail
        all_goals (go_end0;exact⟨rfl,vb,HBb.out,by rw[He.out];exact HO.out,HN.out,HG.out⟩)
  · have HB0:=Lib.hid hBb
    have HO0:Hid (Own 3 W0 w (.slice ab b.length cb) (colIto f k c u b 0)):=Lib.hid (by rw[colIto_zero_f hq];exact hOb)
    have HN0:=Lib.hid hNb
    have HG0:=Lib.hid (World.grownBy.refl w (some bB))
    clear hBb hOb
    go_enter Tryz.func183,Tryz.ntmps183
    go_wp2_with fail
    clear hx hf
    go_loopw [7] (fun xv wr=>∃(n:Nat) (vb:Value),n≤k∧n≤u+1∧xv=.int .i64 n∧Blk wr bB 22 #[vb]∧Own 3 W0 wr vb (colIto f k c u b n)∧vb.ownBlock≠some bB∧w.grownBy wr (some bB)) (fun x _=>k - (intOf x).toNat)
    case atStart=>exact⟨0,.slice ab b.length cb,by omega,by omega,rfl,HB0.out,HO0.out,HN0.out,HG0.out⟩
    case round =>
     obtain⟨n,vb,hn1,hn2,rfl,hBb,hO,hN,hG⟩:=hrel
     clear HB0 HO0 HN0 HG0
     have hOc':=hOc.kept_ne hG hNc
     have hBk':=hBk.grown_ne hG hbk
     have hBt':=hBt.grown_ne hG hbt
     have hE0':Ext W0 wr:=hE0.grown hG (fun j hj=>by cases hj;exact hb0)
     have hszb:=hBb.lt
     have ck:=hBk'.cell (i:=0) (v:=.int .i64 k) rfl
     have HO:=Lib.hid hO
     have HBb:=Lib.hid hBb
     have HN:=Lib.hid hN
     have HG:=Lib.hid hG
     clear hO hBb hN hG
     by_cases hlt:n<k∧n≤u
     · obtain⟨hlt,hle⟩:=hlt
       have hI:=hOc'.ints
       have hlen:c.length<17592186044416:=by omega
       have hl1:(c++[(n:Int)]).length=c.length+1:=by simp
       clear hOc'
       cases hb:badF (c++[(n:Int)])
       · have hT':=colT_next HT.out hlt hle hb
         have hcB:=fun v W (hv:Ints W v (c++[(n:Int)]))=>fits_any v _ W hv (by omega)
         rw[hb] at hcB
         have He:=Lib.hid (colIto_next (f:=f) (k:=k) (u:=u) (b:=b) hb)
         have hcL0:=fun v W b' vb' (h1:Own 3 W0 W v (c++[(n:Int)])) (h2:v.ownBlock≠some bB) (h3:Blk W bB 22 #[vb']) (h4:Own 3 W0 W vb' b') (h5:vb'.ownBlock≠some bB) (h6:Blk W bK 3 #[.int .i64 k]) (h7:Blk W bT 132 #[.func (.func 183) #[] #[.pointer (some ⟨bB,0,none⟩),.pointer (some ⟨bK,0,none⟩),.pointer (some ⟨bT,0,none⟩)]]) (h8:Ext W0 W)=>Hih.out (c++[(n:Int)]) (max u (n+1)) v W0 W b' vb' hT' (by omega) (by omega) h1 h2 h3 h4 h5 h6 h7 hb0 h8
         have hcL:∀(v:Value) (W:World) (b':List Int) (vb':Value),Own 3 W0 W v (c++[(n:Int)])→v.ownBlock≠some bB→Blk W bB 22 #[vb']→Own 3 W0 W vb' b'→vb'.ownBlock≠some bB→Blk W bK 3 #[.int .i64 k]→Blk W bT 132 #[.func (.func 183) #[] #[.pointer (some ⟨bB,0,none⟩),.pointer (some ⟨bK,0,none⟩),.pointer (some ⟨bT,0,none⟩)]]→Ext W0 W →
          Calls Tryz.prog 183 #[v,.int .i64 (if (u:Int)<(n:Int)+1 then (n:Int)+1 else u),.pointer (some ⟨bB,0,none⟩),.pointer (some ⟨bK,0,none⟩),.pointer (some ⟨bT,0,none⟩)] W fun e w'=>e=.returned (.tuple #[])∧∃v',Blk w' bB 22 #[v']∧Own 3 W0 w' v' (colI f k (c++[(n:Int)]) (max u (n+1)) b')∧v'.ownBlock≠some bB∧W.grownBy w' (some bB):=by
          intro v W b' vb' h1 h2 h3 h4 h5 h6 h7 h8
          have:=hcL0 v W b' vb' h1 h2 h3 h4 h5 h6 h7 h8
          split
          · rw[show max u (n+1)=n+1 by omega] at this ⊢;exact this
          · rw[show max u (n+1)=u by omega] at this ⊢;exact this
         have kt:∀W,Ext wr W→W.cell? ⟨bT,0,none⟩=some (.func (.func 183) #[] #[.pointer (some ⟨bB,0,none⟩),.pointer (some ⟨bK,0,none⟩),.pointer (some ⟨bT,0,none⟩)]):=fun W hW=>(hBt'.ext hW).cell (i:=0) rfl
         clear hcL0 hb hT'
         by_cases hm:(u:Int)<(n:Int)+1
         all_goals
          first | rw[if_pos hm] at hcL | rw[if_neg hm] at hcL
          go_wp2_with (first
           | (go_at_call 86;refine (Calls.sh (copyInts_any _ _ _ hI)).mono ?_;rintro e w1 ⟨ao1,c1,rfl,hO1,hE1⟩)
           | (at_builtin;refine wp_append1 slI rfl _ _ rfl wr _ _ _ _ hO1 hE1 hlen rfl rfl ?_;intro v2 w2 hO2 hE2)
           | (go_at_call 184;refine (hcB _ _ hO2.ints).mono ?_;rintro e w3 ⟨rfl,hE3⟩;have hE23:=hE2.trans hE3)
           | (go_at_call 183;refine (hcL _ _ _ vb ((hO2.ext hE3).mono hE0') (own_ne hO2 hszb) (HBb.out.ext hE23) (HO.out.ext hE23) HN.out (hBk'.ext hE23) (hBt'.ext hE23) (hE0'.trans hE23)).mono ?_;rintro e w4 ⟨rfl,v4,hB4,hO4,hN4,hG4⟩))
          go_roundw
          case rel=>exact⟨n+1,v4,by omega,by omega,by go_num,hB4,by rw[He.out];exact hO4,hN4,grownBy_trans (grownBy_trans HG.out (hE23.grow _)) hG4⟩
          case measure=>(simp[intOf];omega)
       · have hcB:=fun v W (hv:Ints W v (c++[(n:Int)]))=>fits_any v _ W hv (by omega)
         rw[hb] at hcB
         have He:=Lib.hid (colIto_bad (f:=f) (k:=k) (u:=u) (b:=b) hb)
         clear hb
         go_wp2_with (first
          | (go_at_call 86;refine (Calls.sh (copyInts_any _ _ _ hI)).mono ?_;rintro e w1 ⟨ao1,c1,rfl,hO1,hE1⟩)
          | (at_builtin;refine wp_append1 slI rfl _ _ rfl wr _ _ _ _ hO1 hE1 hlen rfl rfl ?_;intro v2 w2 hO2 hE2)
          | (go_at_call 184;refine (hcB _ _ hO2.ints).mono ?_;rintro e w3 ⟨rfl,hE3⟩;have hE23:=hE2.trans hE3))
         go_roundw
         case rel=>exact⟨n+1,vb,by omega,by omega,by go_num,HBb.out.ext hE23,by rw[He.out];exact HO.out.ext hE23,HN.out,grownBy_trans HG.out (hE23.grow _)⟩
         case measure=>(simp[intOf];omega)
     · have He:Hid (colI (f+1) k c u b=colIto f k c u b n):=Lib.hid (by rw[colI_succ,show min k (u+1)=n by omega])
       clear hOc'
       by_cases h1:n<k
       all_goals
        have h2:n<k→¬n≤u:=by omega
        try replace h2:=h2 h1
        clear hlt
        go_wp2_with fail
        all_goals (go_end0;exact⟨rfl,vb,HBb.out,by rw[He.out];exact HO.out,HN.out,HG.out⟩)
end Go.Zz
namespace Go.Zz
open Go.RowKit Go.Proofs
set_option maxHeartbeats 2000000
set_option maxRecDepth 4000
theorem sLongestColoring_any(k:Int)(w:World) :
 Calls Tryz.prog 112 #[.int .i64 k] w fun e w'=>∃v',e=.returned (.tuple #[v',.bool (inB k 1 3)])∧Own 3 w w' v' (colF k)∧Ext w w':=by
 cases hk:inB k 1 3
 · have He:=Lib.hid (colF_no hk)
   have hcI:=l1In_any k 1 3
   rw[hk] at hcI
   go_enter Tryz.func112,Tryz.ntmps112
   go_wp2_with (refine (hcI _).mono ?_;rintro e w1 ⟨rfl,hE1⟩;subst hE1)
   exact bodyPost_ret (v:=.tuple #[.slice (some ⟨w.heap.size,0,none⟩) 0 0,.bool false]) (by simp[results,Tryz.results112,go_sem]) rfl ⟨_,rfl,by rw[He.out];exact own_made (TI:=3) (n:=0) (by omega) (Ext.refl w) [] rfl,(Ext.refl w).alloc _⟩
 · have hk2:=inB_t.1 hk
   obtain⟨k,rfl⟩:∃n:Nat,k=n:=⟨k.toNat,by omega⟩
   have He:=Lib.hid (colF_nat hk)
   have hcI:=l1In_any k 1 3
   rw[hk] at hcI
   have hO0:=own_made (TI:=3) (n:=0) (by omega) (Ext.refl w) [] rfl
   have hE0:=(Ext.refl w).alloc (.cells #[] 3)
   have hcL:=sLong_any k (by omega) 15 [] 0 _ w _ (colT_all (by omega) (by omega)) (by omega) (by simp) hO0 hE0
   go_enter Tryz.func112,Tryz.ntmps112
   go_wp2_with (first | (go_at_call 139;refine (hcI _).mono ?_;rintro e w1 ⟨rfl,hE1⟩;subst hE1) | (go_at_call 185;refine hcL.mono ?_;rintro e w2 ⟨v2,rfl,hO2,hE2⟩))
   exact bodyPost_ret (v:=.tuple #[v2,.bool true]) (by simp[results,Tryz.results112,go_sem]) rfl ⟨_,rfl,by rw[He.out];exact hO2,hE0.trans hE2⟩
theorem LongestColoring_any(k:Int)(w:World) :
 Calls Tryz.prog 111 #[.int .i64 k] w fun e w'=>∃v',e=.returned (.tuple #[v',.bool (inB k 1 3)])∧Own 3 w w' v' (colF k)∧Ext w w':=by
 cases hk:inB k 1 3
 · have He:=Lib.hid (colF_no hk)
   have hcI:=within_any k 1 3
   rw[hk] at hcI
   have hE0:=(Ext.refl w).alloc (.cells #[.int .i64 k] 3)
   go_enter Tryz.func111,Tryz.ntmps111
   go_wp2_with (refine (hcI _).mono ?_;rintro e w1 ⟨rfl,hE1⟩;subst hE1)
   exact bodyPost_ret (v:=.tuple #[.slice (some ⟨w.heap.size+1,0,none⟩) 0 0,.bool false]) (by simp[results,Tryz.results111,go_sem]) rfl ⟨_,rfl,by rw[He.out];simpa using own_made (TI:=3) (n:=0) (by omega) hE0 [] rfl,hE0.alloc _⟩
 · have hk2:=inB_t.1 hk
   obtain⟨k,rfl⟩:∃n:Nat,k=n:=⟨k.toNat,by omega⟩
   have He:=Lib.hid ((colF_nat hk).trans (colI_all (k:=k) (by omega) (by omega)).symm)
   have hcI:=within_any k 1 3
   rw[hk] at hcI
   have hmf:∀(fn:Fn) (first cap:Array Value) (w:World),(Instr.makeFunc fn first cap).run Tryz.prog w=.ok (.func fn first cap) w:=fun _ _ _ _=>rfl
   have hE0:=(Ext.refl w).alloc (.cells #[.int .i64 k] 3)
   go_enter Tryz.func111,Tryz.ntmps111
   go_wp2_with (first | (go_at_call 138;refine (hcI _).mono ?_;rintro e w1 ⟨rfl,hE1⟩;subst hE1))
   obtain⟨w1,h1⟩:∃x,x=w.alloc (.cells #[.int .i64 (k:Int)] 3):=⟨_,rfl⟩
   obtain⟨w2,h2⟩:∃x,x=w1.alloc (.cells #[] 3):=⟨_,rfl⟩
   obtain⟨w3,h3⟩:∃x,x=w2.alloc (.cells #[.slice (some ⟨w.heap.size+1,0,none⟩) 0 0] 22):=⟨_,rfl⟩
   obtain⟨w4,h4⟩:∃x,x=w3.alloc (.cells #[.func (.func 183) #[] #[.pointer (some ⟨w.heap.size+1+1,0,none⟩),.pointer (some ⟨w.heap.size,0,none⟩),.pointer (some ⟨w.heap.size+1+1+1,0,none⟩)]] 132):=⟨_,rfl⟩
   obtain⟨w5,h5⟩:∃x,x=w4.alloc (.cells #[] 3):=⟨_,rfl⟩
   rw[←h1,←h2,←h3,←h4,←h5]
   have s1:w1.heap.size=w.heap.size+1:=by rw[h1];simp
   have s2:w2.heap.size=w.heap.size+1+1:=by rw[h2];simp[s1]
   have s3:w3.heap.size=w.heap.size+1+1+1:=by rw[h3];simp[s2]
   have s4:w4.heap.size=w.heap.size+1+1+1+1:=by rw[h4];simp[s3]
   have e01:Ext w w1:=by rw[h1];exact (Ext.refl _).alloc _
   have e12:Ext w1 w2:=by rw[h2];exact (Ext.refl _).alloc _
   have e23:Ext w2 w3:=by rw[h3];exact (Ext.refl _).alloc _
   have e34:Ext w3 w4:=by rw[h4];exact (Ext.refl _).alloc _
   have e45:Ext w4 w5:=by rw[h5];exact (Ext.refl _).alloc _
   have B1:Blk w1 w.heap.size 3 #[.int .i64 (k:Int)]:=by rw[h1];exact Blk.new _ _ _
   have B3:Blk w3 (w.heap.size+1+1) 22 #[.slice (some ⟨w.heap.size+1,0,none⟩) 0 0]:=by rw[h3,←s2];exact Blk.new _ _ _
   have B4:Blk w4 (w.heap.size+1+1+1) 132 #[.func (.func 183) #[] #[.pointer (some ⟨w.heap.size+1+1,0,none⟩),.pointer (some ⟨w.heap.size,0,none⟩),.pointer (some ⟨w.heap.size+1+1+1,0,none⟩)]]:=by rw[h4,←s3];exact Blk.new _ _ _
   have O2:Own 3 w1 w2 (.slice (some ⟨w.heap.size+1,0,none⟩) 0 0) []:=by rw[h2,←s1];exact own_made (TI:=3) (n:=0) (by omega) (Ext.refl w1) [] rfl
   have O5:Own 3 w1 w5 (.slice (some ⟨w.heap.size+1+1+1+1,0,none⟩) 0 0) []:=by rw[h5,←s4];exact own_made (TI:=3) (n:=0) (by omega) (e12.trans (e23.trans e34)) [] rfl
   have e35:=e34.trans e45
   refine (try_any k (by omega) (w.heap.size+1+1) w.heap.size (w.heap.size+1+1+1) (by omega) (by omega) 15 [] 0 _ w1 w5 [] _ (colT_all (by omega) (by omega)) (by omega) (by simp) O5 (by simp[Value.ownBlock]<;>omega) (B3.ext e35) (O2.ext (e23.trans e35)) (by simp[Value.ownBlock]<;>omega) (B1.ext (e12.trans (e23.trans e35))) (B4.ext e45) (by omega) (e12.trans (e23.trans e35))).mono ?_
   rintro e w6 ⟨rfl,v6,hB6,hO6,-,hG6⟩
   obtain⟨a6,c6,rfl,-⟩:=hO6.shape
   have hx6:=hB6.cell (i:=0) (v:=.slice a6 (colI 15 k [] 0 []).length c6) rfl
   have hE6:Ext w w6:=(e01.trans (e12.trans (e23.trans e35))).grown hG6 (fun j hj=>by cases hj;omega)
   go_wp2_with fail
   exact bodyPost_ret (v:=.tuple #[.slice a6 (colI 15 k [] 0 []).length c6,.bool true]) (by simp[results,Tryz.results111,go_sem]) rfl ⟨_,rfl,by rw[He.out];exact hO6.mono e01,hE6⟩
def ccT(k:Int):List Int:=if inB k 1 3 then colF k else []
def ccK(k:Int):Int:=if inB k 1 3 then 6 else 0
def ccN(k:Int):Int:=if inB k 1 3 then k else 0
theorem cc_no{k:Int}(h:inB k 1 3=false):ccT k=[]∧ccK k=0∧ccN k=0:=by unfold ccT ccK ccN;rw[h];exact⟨rfl,rfl,rfl⟩
theorem cc_yes{k:Int}(h:inB k 1 3=true):ccT k=colF k∧ccK k=6∧ccN k=k:=by unfold ccT ccK ccN;rw[h];exact⟨rfl,rfl,rfl⟩
theorem ClaimOfColors_any(k:Int)(w:World) :
 Calls Tryz.prog 29 #[.int .i64 k] w fun e w'=>∃v1 v2 v3 v4,e=.returned (.tuple #[CV (ccK k) v1 v2 0 0 0 0 v3 v4 (ccN k),.bool (inB k 1 3)])∧Own4 w w' v1 v2 v3 v4 [] [] (ccT k) []∧Ext w w':=by
 obtain⟨wb,hwb⟩:∃wb,wb=w:=⟨_,rfl⟩
 have hE:=Ext.refl wb
 obtain⟨wc,hwc⟩:∃wc,wc=wb.alloc (.cells #[.int .i64 0,.slice none 0 0,.slice none 0 0,.int .i64 0,.int .i64 0,.int .i64 0,.int .i64 0,.slice none 0 0,.slice none 0 0,.int .i64 0] 38):=⟨_,rfl⟩
 have hBc:Blk wc wb.heap.size 38 #[.int .i64 0,.slice none 0 0,.slice none 0 0,.int .i64 0,.int .i64 0,.int .i64 0,.int .i64 0,.slice none 0 0,.slice none 0 0,.int .i64 0]:=by rw[hwc];exact Blk.new _ _ _
 have hRc:Res wc wb.heap.size 10:=hBc.res (by simp)
 have hAc:Ext wb wc:=by rw[hwc];exact hE.alloc _
 replace hE:=Ext.refl wc
 have Hsz2:Hid (wb.heap.size+1=wc.heap.size):=Lib.hid (by rw[hwc];simp[go_sem])
 have Hwc:=Lib.hid hwc
 clear hwc hBc
 subst hwb
 have hwc:wb.heap.size<wc.heap.size:=by have:=Hsz2.out;omega
 have hcL:=LongestColoring_any k wc
 cases hs:inB k 1 3
 · have Hs:=Lib.hid (cc_no hs)
   rw[hs] at hcL
   go_enter Tryz.func29,Tryz.ntmps29
   go_wp2_with fail
   rw[←Hwc.out]
   refine hcL.mono ?_
   rintro e w1 ⟨v1,rfl,hO1,hE1⟩
   obtain⟨ao1,c1,rfl,-⟩:=hO1.shape
   have hr:=hRc.ext hE1
   unfold Res at hr
   go_wp2_with fail
   exact bodyPost_ret (v:=.tuple #[CV 0 (.slice none 0 0) (.slice none 0 0) 0 0 0 0 (.slice none 0 0) (.slice none 0 0) 0,.bool false]) (by simp[results,Tryz.results29,go_sem,hr,CV]) rfl ⟨_,_,_,_,by rw[Hs.out.2.1,Hs.out.2.2],by rw[Hs.out.1];exact⟨Own.nil _ _ _,Own.nil _ _ _,Own.nil _ _ _,Own.nil _ _ _,Apart.nil_left _,Apart.nil_left _,Apart.nil_left _,Apart.nil_left _,Apart.nil_left _,Apart.nil_left _⟩,by (repeat (refine Ext.setCell ?_ (Nat.le_refl _) _));exact hAc.trans hE1⟩
 · have Hs:=Lib.hid (cc_yes hs)
   rw[hs] at hcL
   go_enter Tryz.func29,Tryz.ntmps29
   go_wp2_with fail
   rw[←Hwc.out]
   refine hcL.mono ?_
   rintro e w1 ⟨v1,rfl,hO1,hE1⟩
   obtain⟨ao1,c1,rfl,-⟩:=hO1.shape
   have hr:=hRc.ext hE1
   unfold Res at hr
   go_wp2_with fail
   exact bodyPost_ret (v:=.tuple #[CV 6 (.slice none 0 0) (.slice none 0 0) 0 0 0 0 (.slice ao1 (colF k).length c1) (.slice none 0 0) k,.bool true]) (by simp[results,Tryz.results29,go_sem,hr,CV]) rfl ⟨_,_,_,_,by rw[Hs.out.2.1,Hs.out.2.2],by rw[Hs.out.1];exact⟨Own.nil _ _ _,Own.nil _ _ _,(show Own 3 wc _ _ _ by (repeat (refine Own.setCell_below ?_ hwc _));exact hO1).mono hAc,Own.nil _ _ _,Apart.nil_left _,Apart.nil_left _,Apart.nil_left _,Apart.nil_left _,Apart.nil_left _,Apart.nil_right _⟩,by (repeat (refine Ext.setCell ?_ (Nat.le_refl _) _));exact hAc.trans hE1⟩
theorem sClaimOfColors_any(k:Int)(w:World) :
 Calls Tryz.prog 30 #[.int .i64 k] w fun e w'=>∃v1 v2 v3 v4,e=.returned (.tuple #[CV (ccK k) v1 v2 0 0 0 0 v3 v4 (ccN k),.bool (inB k 1 3)])∧Own4 w w' v1 v2 v3 v4 [] [] (ccT k) []∧Ext w w':=by
 obtain⟨wb,hwb⟩:∃wb,wb=w:=⟨_,rfl⟩
 have hE:=Ext.refl wb
 obtain⟨wc,hwc⟩:∃wc,wc=wb.alloc (.cells #[.int .i64 0,.slice none 0 0,.slice none 0 0,.int .i64 0,.int .i64 0,.int .i64 0,.int .i64 0,.slice none 0 0,.slice none 0 0,.int .i64 0] 38):=⟨_,rfl⟩
 have hBc:Blk wc wb.heap.size 38 #[.int .i64 0,.slice none 0 0,.slice none 0 0,.int .i64 0,.int .i64 0,.int .i64 0,.int .i64 0,.slice none 0 0,.slice none 0 0,.int .i64 0]:=by rw[hwc];exact Blk.new _ _ _
 have hRc:Res wc wb.heap.size 10:=hBc.res (by simp)
 have hAc:Ext wb wc:=by rw[hwc];exact hE.alloc _
 replace hE:=Ext.refl wc
 have Hsz2:Hid (wb.heap.size+1=wc.heap.size):=Lib.hid (by rw[hwc];simp[go_sem])
 have Hwc:=Lib.hid hwc
 clear hwc hBc
 subst hwb
 have hwc:wb.heap.size<wc.heap.size:=by have:=Hsz2.out;omega
 have hcL:=sLongestColoring_any k wc
 cases hs:inB k 1 3
 · have Hs:=Lib.hid (cc_no hs)
   rw[hs] at hcL
   go_enter Tryz.func30,Tryz.ntmps30
   go_wp2_with fail
   rw[←Hwc.out]
   refine hcL.mono ?_
   rintro e w1 ⟨v1,rfl,hO1,hE1⟩
   obtain⟨ao1,c1,rfl,-⟩:=hO1.shape
   have hr:=hRc.ext hE1
   unfold Res at hr
   go_wp2_with fail
   exact bodyPost_ret (v:=.tuple #[CV 0 (.slice none 0 0) (.slice none 0 0) 0 0 0 0 (.slice none 0 0) (.slice none 0 0) 0,.bool false]) (by simp[results,Tryz.results30,go_sem,hr,CV]) rfl ⟨_,_,_,_,by rw[Hs.out.2.1,Hs.out.2.2],by rw[Hs.out.1];exact⟨Own.nil _ _ _,Own.nil _ _ _,Own.nil _ _ _,Own.nil _ _ _,Apart.nil_left _,Apart.nil_left _,Apart.nil_left _,Apart.nil_left _,Apart.nil_left _,Apart.nil_left _⟩,by (repeat (refine Ext.setCell ?_ (Nat.le_refl _) _));exact hAc.trans hE1⟩
 · have Hs:=Lib.hid (cc_yes hs)
   rw[hs] at hcL
   go_enter Tryz.func30,Tryz.ntmps30
   go_wp2_with fail
   rw[←Hwc.out]
   refine hcL.mono ?_
   rintro e w1 ⟨v1,rfl,hO1,hE1⟩
   obtain⟨ao1,c1,rfl,-⟩:=hO1.shape
   have hr:=hRc.ext hE1
   unfold Res at hr
   go_wp2_with fail
   exact bodyPost_ret (v:=.tuple #[CV 6 (.slice none 0 0) (.slice none 0 0) 0 0 0 0 (.slice ao1 (colF k).length c1) (.slice none 0 0) k,.bool true]) (by simp[results,Tryz.results30,go_sem,hr,CV]) rfl ⟨_,_,_,_,by rw[Hs.out.2.1,Hs.out.2.2],by rw[Hs.out.1];exact⟨Own.nil _ _ _,Own.nil _ _ _,(show Own 3 wc _ _ _ by (repeat (refine Own.setCell_below ?_ hwc _));exact hO1).mono hAc,Own.nil _ _ _,Apart.nil_left _,Apart.nil_left _,Apart.nil_left _,Apart.nil_left _,Apart.nil_left _,Apart.nil_right _⟩,by (repeat (refine Ext.setCell ?_ (Nat.le_refl _) _));exact hAc.trans hE1⟩
end Go.Zz
namespace Go.Zz
open Go.RowKit Go.Proofs
set_option maxHeartbeats 1000000
set_option maxRecDepth 8000
theorem ffR_not{g h:List Int}{a b:Int}(e:ffC g h a b=false):ffR g h a b=none:=by unfold ffR;rw[e];rfl
theorem sFindFreimanIso_any(v u:Value)(g h:List Int)(a b:Int)(w:World)(hv:Ints w v g)(hu:Ints w u h) :
 Calls Tryz.prog 107 #[.agg #[v],.agg #[u],.int .i64 a,.int .i64 b] w fun e w'=>∃v',e=.returned (.tuple #[v',.bool (ffB g h a b)])∧Own 3 w w' v' (castL (ffL g h a b))∧Ext w w':=by
 obtain⟨wb,hwb⟩:∃wb,wb=(w.alloc (.cells #[v] 27)).alloc (.cells #[u] 27):=⟨_,rfl⟩
 have hE0:Ext w wb:=by rw[hwb];exact ((Ext.refl _).alloc _).alloc _
 have B0:Blk wb w.heap.size 27 #[v]:=by rw[hwb];exact (Blk.new _ _ _).alloc _
 have B1:Blk wb (w.heap.size+1) 27 #[u]:=by rw[hwb];simpa using Blk.new (w.alloc (.cells #[v] 27)) 27 #[u]
 have b0:∀W,Ext wb W→W.cell? ⟨w.heap.size,0,none⟩=some v:=fun W hW=>(B0.ext hW).cell (i:=0) rfl
 have b1:∀W,Ext wb W→W.cell? ⟨w.heap.size+1,0,none⟩=some u:=fun W hW=>(B1.ext hW).cell (i:=0) rfl
 have HV:=Lib.hid (fun W (hW:Ext wb W)=>hv.ext (hE0.trans hW))
 have HU:=Lib.hid (fun W (hW:Ext wb W)=>hu.ext (hE0.trans hW))
 have hE:=Ext.refl wb
 have Hwb:=Lib.hid hwb
 clear hv hu hwb B0 B1
 have cA:=fun W (hW:Ext wb W)=>sIsSet_any v g a W (HV.out W hW)
 have cB:=fun W (hW:Ext wb W)=>sIsSet_any u h b W (HU.out W hW)
 cases hA:isSetB g a
 · have H1:=Lib.hid (ff_no (ffR_not (g:=g) (h:=h) (a:=a) (b:=b) (by unfold ffC;rw[hA];rfl)))
   rw[hA] at cA
   clear hA cB
   go_enter Tryz.func107,Tryz.ntmps107
   go_wp2_with fail
   rw[←Hwb.out]
   refine (cA _ hE).mono ?_
   rintro e w1 ⟨rfl,hE1⟩
   go_wp2_with fail
   rw[H1.out.1,H1.out.2]
   exact bodyPost_ret (v:=.tuple #[.slice (some ⟨(w1).heap.size,0,none⟩) 0 0,.bool false]) (by simp[results,Tryz.results107,go_sem]) rfl ⟨_,rfl,own_made (TI:=3) (n:=0) (by omega) (hE0.trans hE1) (castL []) rfl,Ext.alloc (hE0.trans hE1) _⟩
 cases hB:isSetB h b
 · have H1:=Lib.hid (ff_no (ffR_not (g:=g) (h:=h) (a:=a) (b:=b) (by unfold ffC;rw[hB];simp)))
   rw[hA] at cA
   rw[hB] at cB
   clear hA hB
   go_enter Tryz.func107,Tryz.ntmps107
   go_wp2_with fail
   rw[←Hwb.out]
   refine (cA _ hE).mono ?_
   rintro e w1 ⟨rfl,hE1⟩
   go_wp2_with fail
   refine (cB _ hE1).mono ?_
   rintro e w2 ⟨rfl,hE2⟩
   have hE2b:=hE1.trans hE2
   go_wp2_with fail
   rw[H1.out.1,H1.out.2]
   exact bodyPost_ret (v:=.tuple #[.slice (some ⟨(w2).heap.size,0,none⟩) 0 0,.bool false]) (by simp[results,Tryz.results107,go_sem]) rfl ⟨_,rfl,own_made (TI:=3) (n:=0) (by omega) (hE0.trans hE2b) (castL []) rfl,Ext.alloc (hE0.trans hE2b) _⟩
 obtain⟨A,rfl,hA2,hA24,hgg⟩:=isSetB_nat hA
 obtain⟨B,rfl,hB2,hB24,hgh⟩:=isSetB_nat hB
 have HC:Hid (ffC g h A B=(decide (cnt A=cnt B)&&decide (1≤cnt A∧cnt A≤5))):=Lib.hid (by unfold ffC;rw[hA,hB];rfl)
 rw[hA] at cA
 rw[hB] at cB
 clear hA hB
 have cX:=fun W=>l3Bits_any A hA24 W
 have cY:=fun W=>l3Bits_any B hB24 W
 by_cases hc:¬cnt A=cnt B
 · have hcb:((cnt A:Int) != (cnt B:Int))=true:=by rw[bne_iff_ne];omega
   have H1:=Lib.hid (ff_no (ffR_not (g:=g) (h:=h) (a:=A) (b:=B) (by rw[HC.out,decide_eq_false hc];rfl)))
   clear hc
   go_enter Tryz.func107,Tryz.ntmps107
   go_wp2_with fail
   rw[←Hwb.out]
   refine (cA _ hE).mono ?_
   rintro e w1 ⟨rfl,hE1⟩
   go_wp2_with fail
   refine (cB _ hE1).mono ?_
   rintro e w2 ⟨rfl,hE2⟩
   have hE2b:=hE1.trans hE2
   go_wp2_with fail
   refine (cX _).mono ?_
   rintro e w3 ⟨rfl,rfl⟩
   go_wp2_with fail
   refine (cY _).mono ?_
   rintro e w3 ⟨rfl,rfl⟩
   go_wp2_with fail
   rw[H1.out.1,H1.out.2]
   exact bodyPost_ret (v:=.tuple #[.slice (some ⟨(w2).heap.size,0,none⟩) 0 0,.bool false]) (by simp[results,Tryz.results107,go_sem]) rfl ⟨_,rfl,own_made (TI:=3) (n:=0) (by omega) (hE0.trans hE2b) (castL []) rfl,Ext.alloc (hE0.trans hE2b) _⟩
 have hc':cnt A=cnt B:=Classical.not_not.1 hc
 have hcb:((cnt A:Int) != (cnt B:Int))=false:=by rw[hc'];simp
 have Hc:=Lib.hid hc'
 clear hc hc'
 have cN:=fun W=>l1In_any ((cnt A:Nat):Int) 1 5 W
 have hin:inB ((cnt A:Nat):Int) 1 5=decide (1≤cnt A∧cnt A≤5):=by
  rw[Bool.eq_iff_iff,inB_t,decide_eq_true_iff];omega
 rw[hin] at cN
 clear hin
 by_cases h15:¬(1≤cnt A∧cnt A≤5)
 · have H1:=Lib.hid (ff_no (ffR_not (g:=g) (h:=h) (a:=A) (b:=B) (by rw[HC.out,decide_eq_false h15];simp)))
   rw[decide_eq_false h15] at cN
   clear h15
   go_enter Tryz.func107,Tryz.ntmps107
   go_wp2_with fail
   rw[←Hwb.out]
   refine (cA _ hE).mono ?_
   rintro e w1 ⟨rfl,hE1⟩
   go_wp2_with fail
   refine (cB _ hE1).mono ?_
   rintro e w2 ⟨rfl,hE2⟩
   have hE2b:=hE1.trans hE2
   go_wp2_with fail
   refine (cX _).mono ?_
   rintro e w3 ⟨rfl,rfl⟩
   go_wp2_with fail
   refine (cY _).mono ?_
   rintro e w3 ⟨rfl,rfl⟩
   go_wp2_with fail
   refine (cX _).mono ?_
   rintro e w3 ⟨rfl,rfl⟩
   go_wp2_with fail
   refine (cN _).mono ?_
   rintro e w3 ⟨rfl,rfl⟩
   go_wp2_with fail
   rw[H1.out.1,H1.out.2]
   exact bodyPost_ret (v:=.tuple #[.slice (some ⟨(w2).heap.size,0,none⟩) 0 0,.bool false]) (by simp[results,Tryz.results107,go_sem]) rfl ⟨_,rfl,own_made (TI:=3) (n:=0) (by omega) (hE0.trans hE2b) (castL []) rfl,Ext.alloc (hE0.trans hE2b) _⟩
 have h15':=Classical.not_not.1 h15
 clear h15
 have hel:(elems A).length=cnt A:=rfl
 have hla:∀y∈elems A,y<ord g:=fun y hy=>bit_lt hA2 (mem_elems.1 hy).2
 have HR:Hid (ffR g h A B=fiS g h (elems A) (elems B) (cnt A+1) []):=Lib.hid (by
  have hC:ffC g h (A:Int) (B:Int)=true:=by rw[HC.out,decide_eq_true Hc.out,decide_eq_true h15'];rfl
  unfold ffR;rw[hC,fiS_eq _ _ _ _ _ _ (by simp)];simp)
 rw[decide_eq_true h15'] at cN
 have Hgg:=Lib.hid hgg
 have Hgh:=Lib.hid hgh
 have cF:=fun W0 W (hW:Ext wb W) (hW0:Ext W0 W) gb (hB:Blk W gb 3 #[]) (hgb:W0.heap.size≤gb) vL (hL:Ints W vL (castL (elems A))) =>
  sFind_any v u g h (elems A) vL B Hgg Hgh (elems_nodup A) hla (by rw[hel];exact h15'.1) (by rw[hel];exact h15'.2) hB2 (cnt A+1) [] _ W0 W (HV.out W hW) (HU.out W hW) hL (OwnE.own (wb:=W0) (w0:=W0) (Or.inl ⟨gb,hgb,rfl,rfl,hB⟩) (Ext.refl _)) hW0 List.nodup_nil (by simp) (by simp) (by rw[hel];simp)
 have Hcp:Hid (0<cnt A):=Lib.hid (by omega)
 clear h15' hla hel hgg hgh hA2 hB2
 have cO:∀(W:World) (vF:Value) (Z:List Nat),(∀N,fiS g h (elems A) (elems B) (cnt A+1) []=some N→Z=N)→(([]:List Nat).length<(elems A).length→fiS g h (elems A) (elems B) (cnt A+1) []=none→Z=[])→Z=ffL g h A B∧(fiS g h (elems A) (elems B) (cnt A+1) []).isSome=ffB g h A B:=fun W vF Z h1 h2=>by
  unfold ffL ffB
  rw[HR.out]
  cases hq:fiS g h (elems A) (elems B) (cnt A+1) [] with
  | none=>exact⟨h2 Hcp.out hq,rfl⟩
  | some N=>exact⟨h1 N hq,rfl⟩
 have HcO:=Lib.hid cO
 clear cO
 obtain⟨R,hR⟩:∃R,R=(fiS g h (elems A) (elems B) (cnt A+1) []).isSome:=⟨_,rfl⟩
 rw[←hR] at cF HcO
 clear hR
 go_enter Tryz.func107,Tryz.ntmps107
 go_wp2_with fail
 rw[←Hwb.out]
 refine (cA _ hE).mono ?_
 rintro e w1 ⟨rfl,hE1⟩
 go_wp2_with fail
 refine (cB _ hE1).mono ?_
 rintro e w2 ⟨rfl,hE2⟩
 have hE2b:=hE1.trans hE2
 go_wp2_with fail
 refine (cX _).mono ?_
 rintro e w3 ⟨rfl,rfl⟩
 go_wp2_with fail
 refine (cY _).mono ?_
 rintro e w3 ⟨rfl,rfl⟩
 go_wp2_with fail
 refine (cX _).mono ?_
 rintro e w3 ⟨rfl,rfl⟩
 go_wp2_with fail
 refine (cN _).mono ?_
 rintro e w3 ⟨rfl,rfl⟩
 clear cA cB cX cY cN
 have c0:=fun W (hW:Ext w2 W)=>b0 W (hE2b.trans hW)
 have c1:=fun W (hW:Ext w2 W)=>b1 W (hE2b.trans hW)
 have cF2:=fun W (hW:Ext w2 W)=>cF w2 W (hE2b.trans hW) hW
 clear cF
 go_wp2_with fail
 first | (go_region_held3 (fun W=>Ext w2 W∧W.cell? ⟨w.heap.size,0,none⟩=some v∧W.cell? ⟨w.heap.size+1,0,none⟩=some u) (exact⟨(by repeat (first | assumption | exact Ext.refl _ | (apply And.left;assumption) | apply Ext.drew | apply Ext.alloc)),c0 _ (by repeat (first | assumption | exact Ext.refl _ | (apply And.left;assumption) | apply Ext.drew | apply Ext.alloc)),c1 _ (by repeat (first | assumption | exact Ext.refl _ | (apply And.left;assumption) | apply Ext.drew | apply Ext.alloc))⟩) (first | (go_at_call 108;(with_reducible refine Calls.mono (l3List_any A hA24 _) ?_);rintro eH wL ⟨vL,rfl,hOL,hXL⟩;have hHL:=Ext.trans (a:=w2) (by repeat (first | assumption | exact Ext.refl _ | (apply And.left;assumption) | apply Ext.drew | apply Ext.alloc)) hXL) | (go_at_call 181;have hLi:=hOL;(with_reducible refine Calls.mono (cF2 _ (by repeat (first | assumption | exact Ext.refl _ | (apply And.left;assumption) | apply Ext.drew | apply Ext.alloc)) _ (by repeat (first | (with_reducible assumption) | (with_reducible exact Blk.new _ _ _) | (with_reducible apply Blk.alloc) | (with_reducible apply Blk.drew) | (with_reducible refine Blk.ext ?_ hXL))) (by first | exact Nat.le_refl _ | exact hHL.size | (simp;omega)) _ (hLi.ints.ext (by repeat (first | assumption | exact Ext.refl _ | (apply And.left;assumption) | apply Ext.drew | apply Ext.alloc)))) ?_);rintro eF wF ⟨vF,Z,rfl,hOF,hZ1,hZ2,hXF⟩;have hHF:=Ext.trans (a:=w2) (by repeat (first | assumption | exact Ext.refl _ | (apply And.left;assumption) | apply Ext.drew | apply Ext.alloc)) hXF))) | (fail "the region")
 all_goals
  have HZ:=Lib.hid (HcO.out wF vF Z hZ1 hZ2)
  have hEf:=hE0.trans (hE2b.trans hHF)
  clear hZ1 hZ2
  go_wp2_with fail
  refine bodyPost_ret (v:=.tuple #[vF,.bool R]) (by simp[results,Tryz.results107,go_sem]) rfl ⟨vF,by rw[HZ.out.2],by rw[←HZ.out.1];exact hOF.mono (hE0.trans hE2b),hEf⟩
end Go.Zz
