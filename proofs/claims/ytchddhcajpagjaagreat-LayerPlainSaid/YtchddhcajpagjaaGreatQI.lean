import Derived.Test.YtchddhcajpagjaaGreatQT
import Derived.Test.YtchddhcajpagjaaGreatPwYi
set_option linter.all false
namespace Go.PW
open Go.RowKit Go.Proofs Go.Shelf
noncomputable def Za31:Ren:=⟨fun x=>if x=17 then 268 else if x=22 then 207 else if x=29 then 253 else if x=30 then 254 else if x=36 then 265 else x,fun x=>if x=0 then 0 else if x=3 then 3 else if x=4 then 4 else if x=9 then 9 else if x=24 then 61 else x,fun x=>x⟩
theorem Za0j:Lays2.n22 Go.Proofs.Tryz.prog Za31 where
 mixed:=by kernel_rfl
 f17:=Go.Proofs.Tryz.func268.trans (congrArg some (by kernel_rfl))
 f22:=Go.Proofs.Tryz.func207.trans (congrArg some (by kernel_rfl))
 f29:=Go.Proofs.Tryz.func253.trans (congrArg some (by kernel_rfl))
 f30:=Go.Proofs.Tryz.func254.trans (congrArg some (by kernel_rfl))
 f36:=Go.Proofs.Tryz.func265.trans (congrArg some (by kernel_rfl))
 t0:=Go.Proofs.Tryz.underlying0
 a0:=Go.Proofs.Tryz.isAgg0
 z0:=Go.Proofs.Tryz.sizeOf0
 v0:=Go.Proofs.Tryz.zeroValue0
 t3:=Go.Proofs.Tryz.underlying3
 a3:=Go.Proofs.Tryz.isAgg3
 z3:=Go.Proofs.Tryz.sizeOf3
 v3:=Go.Proofs.Tryz.zeroValue3
 t4:=Go.Proofs.Tryz.underlying4
 a4:=Go.Proofs.Tryz.isAgg4
 z4:=Go.Proofs.Tryz.sizeOf4
 v4:=Go.Proofs.Tryz.zeroValue4
 t9:=Go.Proofs.Tryz.underlying9
 a9:=Go.Proofs.Tryz.isAgg9
 z9:=Go.Proofs.Tryz.sizeOf9
 v9:=Go.Proofs.Tryz.zeroValue9
 t24:=Go.Proofs.Tryz.underlying61
 a24:=Go.Proofs.Tryz.isAgg61
 z24:=Go.Proofs.Tryz.sizeOf61
 v24:=Go.Proofs.Tryz.zeroValue61
 i9:=by kernel_rfl
theorem Zba9:Z4s PR 207 9 (.string ⟨#[]⟩) 16:=Z4s.str Za0j
end Go.PW
