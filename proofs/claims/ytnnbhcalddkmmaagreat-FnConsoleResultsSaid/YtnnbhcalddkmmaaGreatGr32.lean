/- EquationLine of the program and of the reference. -/
import Derived.Test.YtnnbhcalddkmmaaGreatGr17
import Derived.Test.YtnnbhcalddkmmaaGreatGr4
import Derived.Test.YtnnbhcalddkmmaaGreatGr31
import Derived.Test.YtnnbhcalddkmmaaGreatGr27
set_option linter.unusedSimpArgs false
set_option linter.unusedVariables false
set_option linter.unnecessarySimpa false
namespace Go.Zz
open Go.RowKit Go.Proofs
set_option maxHeartbeats 2000000
set_option maxRecDepth 8000
set_option linter.unusedSimpArgs false
end Go.Zz
namespace Go.Zz
open Go.RowKit Go.Proofs
set_option maxHeartbeats 2000000
set_option maxRecDepth 8000
theorem S5.indexS{w:World}{v:Value}{L:List ByteArray}(h:S5 w v L)(h0:0<L.length):∃g c,v=.slice (some ⟨g,0,none⟩) L.length c ∧
 (∀i,i<L.length→w.cell? ⟨g,i,none⟩=some (.string (m6 L i)))∧∀(i:Nat) W,i<L.length→(Instr.indexAt 24 (.slice (some ⟨g,0,none⟩) L.length c) (.int .i64 (i:Int))).run Tryz.prog W=.ok (.pointer (some ⟨g,i,none⟩)) W:=by
 obtain⟨ao,c,rfl,hlen,hcell⟩:=h;obtain⟨g,rfl,-⟩:=hcell 0 h0;refine⟨g,c,rfl,fun i hi=>?_,fun i W hi=>?_⟩
 · obtain⟨g',e,hc⟩:=hcell i hi;simp only[Option.some.injEq,Addr.mk.injEq,and_true] at e;rw[e];exact hc
 · rw[run_indexAt_slice (h:=elS),if_pos (by omega),szS];simp[Result.andThen,Addr.add_lit]
theorem co0(a b S:ByteArray)(r:Bool)(v:Value)(w:World)(hv:S5 w v [a,b])
 (h1:∀W,Calls Tryz.prog 168 #[.string a,.string b] W fun e w'=>e=.returned (.tuple #[.string S,.bool r])∧Ext W w') :
 Calls Tryz.prog 54 #[v] w fun e w'=>e=.returned (.tuple #[.string S,.bool r])∧Ext w w':=by
 obtain⟨g,c,rfl,hcell,hix⟩:=hv.indexS (by simp);have u0:=fun U=>(b9 w U).cell (hcell 0 (by simp));have u1:=fun U=>(b9 w U).cell (hcell 1 (by simp));change ∀U,(Lat w U).cell? ⟨g,0,none⟩=some (.string a) at u0;change ∀U,(Lat w U).cell? ⟨g,1,none⟩=some (.string b) at u1;have i0:=fun W=>hix 0 W (by simp);have i1:=fun W=>hix 1 W (by simp);change ∀W,(Instr.indexAt 24 (.slice (some ⟨g,0,none⟩) 2 c) (.int .i64 0)).run Tryz.prog W=_ at i0;change ∀W,(Instr.indexAt 24 (.slice (some ⟨g,0,none⟩) 2 c) (.int .i64 1)).run Tryz.prog W=_ at i1;change Calls Tryz.prog 54 #[.slice (some ⟨g,0,none⟩) 2 c] w _;clear hcell hix hv;have hE:=Ext.refl w;go_enter Tryz.func54,Tryz.ntmps54;go_wp2_with fail;(refine d0 (w) (by kernel_rfl) (by kernel_rfl) hE ?_);(repeat (go_big_quiet_step (first | (go_at_call 168;exact Calls.lat (h1 _)))));(refine wpQuiet_nil ?_);(intro W hE');(replace hE:=l7 hE');(clear hE');go_wp2_with fail;exact bodyPost_ret (v:=.tuple #[.string S,.bool r]) (by simp[results,Tryz.results54,go_sem]) rfl ⟨rfl,hE⟩
theorem c18(a b d S:ByteArray)(r:Bool)(v:Value)(w:World)(hv:S5 w v [a,b,d])
 (h1:∀W,Calls Tryz.prog 169 #[.string a,.string b,.string d] W fun e w'=>e=.returned (.tuple #[.string S,.bool r])∧Ext W w') :
 Calls Tryz.prog 54 #[v] w fun e w'=>e=.returned (.tuple #[.string S,.bool r])∧Ext w w':=by
 obtain⟨g,c,rfl,hcell,hix⟩:=hv.indexS (by simp);have u0:=fun U=>(b9 w U).cell (hcell 0 (by simp));have u1:=fun U=>(b9 w U).cell (hcell 1 (by simp));have u2:=fun U=>(b9 w U).cell (hcell 2 (by simp));change ∀U,(Lat w U).cell? ⟨g,0,none⟩=some (.string a) at u0;change ∀U,(Lat w U).cell? ⟨g,1,none⟩=some (.string b) at u1;change ∀U,(Lat w U).cell? ⟨g,2,none⟩=some (.string d) at u2;have i0:=fun W=>hix 0 W (by simp);have i1:=fun W=>hix 1 W (by simp);have i2:=fun W=>hix 2 W (by simp);change ∀W,(Instr.indexAt 24 (.slice (some ⟨g,0,none⟩) 3 c) (.int .i64 0)).run Tryz.prog W=_ at i0;change ∀W,(Instr.indexAt 24 (.slice (some ⟨g,0,none⟩) 3 c) (.int .i64 1)).run Tryz.prog W=_ at i1;change ∀W,(Instr.indexAt 24 (.slice (some ⟨g,0,none⟩) 3 c) (.int .i64 2)).run Tryz.prog W=_ at i2;change Calls Tryz.prog 54 #[.slice (some ⟨g,0,none⟩) 3 c] w _;clear hcell hix hv;have hE:=Ext.refl w;go_enter Tryz.func54,Tryz.ntmps54;go_wp2_with fail;(refine d0 (w) (by kernel_rfl) (by kernel_rfl) hE ?_);(repeat (go_big_quiet_step (first | (go_at_call 169;exact Calls.lat (h1 _)))));(refine wpQuiet_nil ?_);(intro W hE');(replace hE:=l7 hE');(clear hE');go_wp2_with fail;exact bodyPost_ret (v:=.tuple #[.string S,.bool r]) (by simp[results,Tryz.results54,go_sem]) rfl ⟨rfl,hE⟩
end Go.Zz
