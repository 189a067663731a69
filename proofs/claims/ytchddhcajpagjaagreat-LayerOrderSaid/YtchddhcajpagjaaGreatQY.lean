import Derived.Test.YtchddhcajpagjaaGreatRows
import Derived.Test.YtchddhcajpagjaaGreatQO
import Derived.Test.YtchddhcajpagjaaGreatQC
import Derived.Test.YtchddhcajpagjaaGreatQXc
import Derived.Test.YtchddhcajpagjaaGreatPwW
import Derived.HandedShaped
import Derived.ProofKit
import Derived.OpenShut
set_option linter.all false
namespace Go.Proofs.YtchddhcajpagjaaGreat
open Go.ChangeShapes Go.WideShapes Go.ChangeAt Go.RowKit Go.PW
theorem Tryz.own:ownKnob Tryz.prog.godebug=none:=by kernel_rfl
theorem Tryz.laidOut:laidOutB Tryz.prog=true:=by kernel_rfl
theorem Zbfy{W:World}{g:Nat}{v:Value}(h:W.cell? ⟨g,0,none⟩=some v):g < W.heap.size:=by
 unfold World.cell? at h
 cases hx:W.heap[g]? with
 | none=>simp [hx] at h
 | some o=>exact (Array.getElem?_eq_some_iff.1 hx).1
theorem Zbl6{W:World}(h:W.ShapedOpen Tryz.prog):Zaj4 W:=fun g k hg=>by
 have hg:(g,k)∈[((0:Nat),GK.anyInt)]:=hg
 cases List.mem_singleton.1 hg
 obtain⟨m,hm⟩:=Go.Proofs.cell_of_shapedOpen_int (zero := #[.int .i64 0]) (t:=3) (g:=0) h (of_decide_eq_true (by kernel_rfl)) (by kernel_rfl) rfl (by kernel_rfl) (by kernel_rfl) Tryz.underlying3
 exact⟨Zbfy hm,m,hm⟩
end Go.Proofs.YtchddhcajpagjaaGreat
