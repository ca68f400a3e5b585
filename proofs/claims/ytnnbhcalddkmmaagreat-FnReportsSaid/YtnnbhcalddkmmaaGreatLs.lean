/- The contract of the library's sort of ints, laid at this program by the kit's tool (layplain.sh). -/
import Derived.Shelf.SortM.Plain
import Derived.Shelf.SortM.SortNone
import Derived.Ground.SlgmProg
import Derived.Sort.OwnSortedInts
import Derived.Shelf.SlGeneric
import Derived.Test.YtnnbhcalddkmmaaGreatProg
namespace Go.Proofs
open Go.Shelf
def Tryz.laysSort_ren:Go.Shelf.Ren:=⟨fun | 5=>209 | 8=>297 | 7=>296 | 19=>345 | 20=>346 | 10=>337 | 11=>338 | 12=>339 | 13=>340 | 14=>341 | 15=>342 | 16=>305 | 17=>343 | 18=>344 | 30=>362 | 31=>363 | 32=>364 | 33=>365 | 34=>366 | 35=>349 | 40=>379 | n=>n,fun | 23=>26 | 25=>3 | 3=>3 | 32=>112 | 22=>26 | 0=>0 | 44=>181 | 46=>183 | 4=>4 | 36=>175 | 35=>174 | 41=>55 | 5=>5 | 9=>9 | 53=>188 | 57=>192 | 63=>201 | 64=>133 | n=>n,fun | n=>n⟩
theorem Tryz.laysSort:Go.Proofs.SlLaysM.n5 Tryz.prog Tryz.laysSort_ren:={
 mixed:=by kernel_rfl
 f5:=⟨Tryz.f209.name,by decide,Tryz.func209.trans (congrArg some (by kernel_rfl))⟩
 f7:=⟨Tryz.f296.name,by decide,Tryz.func296.trans (congrArg some (by kernel_rfl))⟩
 f8:=Tryz.func297.trans (congrArg some (by kernel_rfl))
 f10:=⟨Tryz.f337.name,by decide,Tryz.func337.trans (congrArg some (by kernel_rfl))⟩
 f11:=⟨Tryz.f338.name,by decide,Tryz.func338.trans (congrArg some (by kernel_rfl))⟩
 f12:=⟨Tryz.f339.name,by decide,Tryz.func339.trans (congrArg some (by kernel_rfl))⟩
 f13:=⟨Tryz.f340.name,by decide,Tryz.func340.trans (congrArg some (by kernel_rfl))⟩
 f14:=⟨Tryz.f341.name,by decide,Tryz.func341.trans (congrArg some (by kernel_rfl))⟩
 f15:=⟨Tryz.f342.name,by decide,Tryz.func342.trans (congrArg some (by kernel_rfl))⟩
 f16:=⟨Tryz.f305.name,by decide,Tryz.func305.trans (congrArg some (by kernel_rfl))⟩
 f17:=⟨Tryz.f343.name,by decide,Tryz.func343.trans (congrArg some (by kernel_rfl))⟩
 f18:=⟨Tryz.f344.name,by decide,Tryz.func344.trans (congrArg some (by kernel_rfl))⟩
 f19:=Tryz.func345.trans (congrArg some (by kernel_rfl))
 f20:=Tryz.func346.trans (congrArg some (by kernel_rfl))
 f30:=⟨Tryz.f362.name,by decide,Tryz.func362.trans (congrArg some (by kernel_rfl))⟩
 f31:=Tryz.func363.trans (congrArg some (by kernel_rfl))
 f32:=Tryz.func364.trans (congrArg some (by kernel_rfl))
 f33:=⟨Tryz.f365.name,by decide,Tryz.func365.trans (congrArg some (by kernel_rfl))⟩
 f34:=⟨Tryz.f366.name,by decide,Tryz.func366.trans (congrArg some (by kernel_rfl))⟩
 f35:=⟨Tryz.f349.name,by decide,Tryz.func349.trans (congrArg some (by kernel_rfl))⟩
 f40:=⟨Tryz.f379.name,by decide,Tryz.func379.trans (congrArg some (by kernel_rfl))⟩
 t0:=Tryz.underlying0
 a0:=Tryz.isAgg0
 z0:=Tryz.sizeOf0
 v0:=Tryz.zeroValue0
 t3:=Tryz.underlying3
 a3:=Tryz.isAgg3
 z3:=Tryz.sizeOf3
 v3:=Tryz.zeroValue3
 t4:=Tryz.underlying4
 a4:=Tryz.isAgg4
 z4:=Tryz.sizeOf4
 v4:=Tryz.zeroValue4
 t5:=Tryz.underlying5
 a5:=Tryz.isAgg5
 z5:=Tryz.sizeOf5
 v5:=Tryz.zeroValue5
 t9:=Tryz.underlying9
 a9:=Tryz.isAgg9
 z9:=Tryz.sizeOf9
 v9:=Tryz.zeroValue9
 t22:=Tryz.underlying26
 a22:=Tryz.isAgg26
 z22:=Tryz.sizeOf26
 v22:=Tryz.zeroValue26
 t23:=Tryz.underlying26
 a23:=Tryz.isAgg26
 z23:=Tryz.sizeOf26
 v23:=Tryz.zeroValue26
 t25:=Tryz.underlying3
 a25:=Tryz.isAgg3
 z25:=Tryz.sizeOf3
 v25:=Tryz.zeroValue3
 t32:=Tryz.underlying112
 a32:=Tryz.isAgg112
 z32:=Tryz.sizeOf112
 v32:=Tryz.zeroValue112
 t35:=Tryz.underlying174
 a35:=Tryz.isAgg174
 z35:=Tryz.sizeOf174
 v35:=Tryz.zeroValue174
 t36:=Tryz.underlying175
 a36:=Tryz.isAgg175
 z36:=Tryz.sizeOf175
 v36:=Tryz.zeroValue175
 t41:=Tryz.underlying55
 a41:=Tryz.isAgg55
 z41:=Tryz.sizeOf55
 v41:=Tryz.zeroValue55
 t44:=Tryz.underlying181
 a44:=Tryz.isAgg181
 z44:=Tryz.sizeOf181
 v44:=Tryz.zeroValue181
 t46:=Tryz.underlying183
 a46:=Tryz.isAgg183
 z46:=Tryz.sizeOf183
 v46:=Tryz.zeroValue183
 t53:=Tryz.underlying188
 a53:=Tryz.isAgg188
 z53:=Tryz.sizeOf188
 v53:=Tryz.zeroValue188
 t57:=Tryz.underlying192
 a57:=Tryz.isAgg192
 z57:=Tryz.sizeOf192
 v57:=Tryz.zeroValue192
 t63:=Tryz.underlying201
 a63:=Tryz.isAgg201
 z63:=Tryz.sizeOf201
 v63:=Tryz.zeroValue201
 t64:=Tryz.underlying133
 a64:=Tryz.isAgg133
 z64:=Tryz.sizeOf133
 v64:=Tryz.zeroValue133 }
end Go.Proofs
