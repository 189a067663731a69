import Derived.Test.YtchddhcajpagjaaGreatQT
import Derived.Test.YtchddhcajpagjaaGreatPwYi
set_option linter.all false
namespace Go.PW
open Go.Proofs.Tryz
open Go.RowKit Go.Proofs Go.Shelf
noncomputable def Za3u:Ren:=⟨fun x=>if x=17 then 268 else if x=22 then 207 else if x=29 then 253 else if x=30 then 254 else if x=36 then 265 else x,fun x=>if x=0 then 0 else if x=3 then 3 else if x=4 then 4 else if x=9 then 9 else if x=24 then 61 else x,fun x=>x⟩
theorem Zaz7:Lays2.n22 Go.Proofs.Tryz.prog Za3u where
 mixed:=by kernel_rfl
 f17:=func268.trans (congrArg some (by kernel_rfl))
 f22:=func207.trans (congrArg some (by kernel_rfl))
 f29:=func253.trans (congrArg some (by kernel_rfl))
 f30:=func254.trans (congrArg some (by kernel_rfl))
 f36:=func265.trans (congrArg some (by kernel_rfl))
 t0:=underlying0
 a0:=isAgg0
 z0:=sizeOf0
 v0:=zeroValue0
 t3:=underlying3
 a3:=isAgg3
 z3:=sizeOf3
 v3:=zeroValue3
 t4:=underlying4
 a4:=isAgg4
 z4:=sizeOf4
 v4:=zeroValue4
 t9:=underlying9
 a9:=isAgg9
 z9:=sizeOf9
 v9:=zeroValue9
 t24:=underlying61
 a24:=isAgg61
 z24:=sizeOf61
 v24:=zeroValue61
 i9:=by kernel_rfl
theorem Zbaz:Z4o PR 207 9 (.string ⟨#[]⟩) 16:=Z4o.str Zaz7
end Go.PW
