import Derived.Test.YtchddhcajpagjaaGreatRows
import Derived.Test.YtchddhcajpagjaaGreatQO
import Derived.Test.YtchddhcajpagjaaGreatQC
import Derived.Test.YtchddhcajpagjaaGreatQXc
import Derived.Test.YtchddhcajpagjaaGreatPwY
import Derived.HandedShaped
import Derived.ProofKit
import Derived.OpenShut
set_option linter.all false
namespace Go.Proofs.YtchddhcajpagjaaGreat
open Go.ChangeShapes Go.WideShapes Go.ChangeAt Go.RowKit Go.PW
def Tryz.own:ownKnob Tryz.prog.godebug=none:=bD
def Tryz.laidOut:laidOutB Tryz.prog=true:=bD
def ZBZ{W:World}{g:Nat}{v:Value}(h:W.cell? ⟨g,0,none⟩=some v):g<W.heap.size:=by
 unfold World.cell? at h;cases hx:W.heap[g]? with
 |none=>simp[hx]at h
 |some o=>exact(xE.1 hx).1
def ZoT{W:World}(h:W.ShapedOpen Tryz.prog):r7 W:=λg k hg=>by have hg:(g,k)∈[((0:Nat),GK.anyInt)]:=hg;cases dW.1 hg;obtain⟨m,hm⟩:=Go.Proofs.cell_of_shapedOpen_int (zero := #[.int .i64 0]) (t:=3) (g:=0) h (j7 bD) bD rfl bD bD Tryz.underlying3;exact⟨ZBZ hm,m,hm⟩
end Go.Proofs.YtchddhcajpagjaaGreat
