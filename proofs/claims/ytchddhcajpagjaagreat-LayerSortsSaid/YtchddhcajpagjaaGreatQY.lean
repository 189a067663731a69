import Derived.Test.YtchddhcajpagjaaGreatRows
import Derived.Test.YtchddhcajpagjaaGreatQO
import Derived.Test.YtchddhcajpagjaaGreatQC
import Derived.Test.YtchddhcajpagjaaGreatQXc
import Derived.Test.YtchddhcajpagjaaGreatPwY
import Derived.HandedShaped
import Derived.ProofKit
import Derived.OpenShut
set_option linter.all false
namespace Go.Proofs.YtchddhcajpagjaaGreat
open Go.ChangeShapes Go.WideShapes Go.ChangeAt Go.RowKit Go.PW
def Tryz.own:ownKnob Tryz.prog.godebug=none:=bp
def Tryz.laidOut:laidOutB Tryz.prog=true:=bp
def Zky{W:World}{g:Nat}{v:Value}(h:W.cell? ⟨g,0,none⟩=some v):g<W.heap.size:=by
 unfold World.cell? at h;cases hx:W.heap[g]? with
 |none=>simp[hx]at h
 |some o=>exact(xq.1 hx).1
def ZdO{W:World}(h:W.ShapedOpen Tryz.prog):rV W:=λg k hg=>by have hg:(g,k)∈[((0:Nat),GK.anyInt)]:=hg;cases dU.1 hg;obtain⟨m,hm⟩:=Go.Proofs.cell_of_shapedOpen_int (zero := #[.int .i64 0]) (t:=3) (g:=0) h (j5 bp) bp rfl bp bp Tryz.underlying3;exact⟨Zky hm,m,hm⟩
end Go.Proofs.YtchddhcajpagjaaGreat
