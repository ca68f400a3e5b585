/- FnReports of the program and of the reference return the same for all arguments. Conditions: none. -/
import Derived.Test.YtnnbhcalddkmmaaGreatWFnReports
import Derived.Test.YtnnbhcalddkmmaaGreatKFnReports
import Derived.Test.YtnnbhcalddkmmaaGreatGr32
namespace Go.Proofs.YtnnbhcalddkmmaaGreat
open Go.ChangeShapes Go.WideShapes Go.ChangeAt Go.RowKit Go.Zz
set_option maxHeartbeats 400000
set_option linter.unusedVariables false
namespace fnReports
theorem own:ownKnob Tryz.prog.godebug=none:=by kernel_rfl
theorem lo:laidOutB Tryz.prog=true:=by kernel_rfl
set_option maxRecDepth 100000 in
theorem li(os:Os)(started:os.Started)(H:Type)(enc:TypeId × Value->H) :
 ReturnsInHanded {} Tryz.checked os 4 .any (Rows.fnReportsSpec.pre6 enc Tryz.prog Tryz.f4 Rows.fnReportsRow.domain false) (Rows.fnReportsSpec.post enc Tryz.prog Tryz.f4 false true false false):=by
 refine returnsInHanded_of_change_sized (C:=Tryz.checked) own started (by kernel_rfl) Tryz.func4
  (ChangeSpec.witness6 (enc:=enc) (C:=Tryz.checked) false ⟨#[],#[.slice none 0 0],[]⟩ 8 (by kernel_rfl) (by kernel_rfl) (by kernel_rfl) (by kernel_rfl)) ?_
 intro W base args ds gs b0 h8 hW hcnd h6 _
 have h9:∀(j:Nat) t v,Tryz.f4.params[j]?=some t->args[j]?=some v->Value.okWide Tryz.prog W .any base t v:=h8
 have h7:(DataW.weightsEach Tryz.prog (Tryz.f4.params.toList++Rows.fnReportsSpec.plain.varTypes Tryz.prog) (ds++gs)).all (·<=reachBytes)=true:=h6
 have hW':=hW
 obtain⟨p,q,hA0,hV,rfl,hfz,hnd⟩:=hW
 have hA:DataW.TrodAll enc Tryz.prog W 0 (fun _=>true) true Tryz.f4.params.toList args.toList ds p:=hA0
 rw[Tryz.params4] at hA h9 h7
 obtain⟨v0,vs0,d0,ds0,p0,q0,ha,rfl,rfl,h0,r0⟩:=trodAll_cons hA
 obtain⟨rfl,rfl,rfl⟩:=trodAll_nil r0
 obtain rfl:args=#[v0]:=by cases args;simp_all
 obtain⟨rfl,rfl⟩:=trodVars_none hV
 have k0:=h0
 have lt0:∀x∈p0,x.block<W.heap.size:=by obtain⟨m,hm⟩:=k0;exact DataW.trod_lt m _ _ _ hm
 have wt0:=weights_arg h7 (j:=0) (t:=22) (d:=d0) rfl rfl
 obtain⟨l0,hI0⟩:=byt_arg Tryz.underlying22 Tryz.underlying5 (by kernel_rfl) (by kernel_rfl) (h9 0 22 v0 rfl rfl) h0 wt0
 refine (FnReports_walk hI0).mono fun e W' ⟨he,bel⟩=>?_
 subst he
 exact⟨_,rfl,_,_,_,[],_,[],hW',trodAll_mk1 (shut_bool Tryz.underlying4 _),(trodAll_cons_mk (Below.trod lo (by kernel_rfl) (of_decide_eq_true (by kernel_rfl)) k0 bel lt0) trodAll_mk0),rfl,bel.frame _,fun h=>by cases h⟩
theorem over:Rows.fnReportsRow.holds Tryz.pinned (OpenSpec.ofChange Rows.fnReportsSpec) :=
 OpenClaim.holds_of_wide 4 Tryz.f4 rfl rfl rfl rfl rfl rfl rfl ⟨rfl,rfl,rfl,rfl,rfl⟩ rfl rfl rfl rfl rfl (by kernel_rfl) Tryz.func4 closed_FnReports
  (of_decide_eq_true (by kernel_rfl)) (by unfold Func.isWrapper;first | (rw[if_pos (by decide +kernel)];kernel_rfl) | (rw[if_neg (by decide +kernel)];exact⟨rfl,rfl⟩))
  (fun os started H enc _=>li os started H enc)
theorem proved:Rows.FnReportsSaid:=over
end fnReports
end Go.Proofs.YtnnbhcalddkmmaaGreat
