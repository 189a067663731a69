import Derived.Test.YtdjfkajcchcdkaaGreatRows
import Derived.Test.YtdjfkajcchcdkaaGreatQO
import Derived.Test.YtdjfkajcchcdkaaGreatQC
import Derived.Test.YtdjfkajcchcdkaaGreatQXb
import Derived.Test.YtdjfkajcchcdkaaGreatPwY
import Derived.HandedShaped
import Derived.ProofKit
import Derived.OpenShut
set_option linter.all false
namespace Go.Proofs.YtdjfkajcchcdkaaGreat
open Go.ChangeShapes Go.WideShapes Go.ChangeAt Go.RowKit Go.PW
def Tryz.own:ownKnob Tryz.prog.godebug=none:=aq
def Tryz.laidOut:laidOutB Tryz.prog=true:=aq
def WW{W:World}{g:Nat}{v:Value}(h:W.cell? ⟨g,0,none⟩=some v):g<W.heap.size:=by
 unfold World.cell? at h;cases hx:W.heap[g]? with
 |none=>simp[hx]at h
 |some o=>exact(nU.1 hx).1
def D9{W:World}(h:W.ShapedOpen Tryz.prog):oh W:=λg k hg=>by have hg:(g,k)∈[((0:Nat),GK.anyInt)]:=hg;cases kG.1 hg;obtain⟨m,hm⟩:=Go.Proofs.cell_of_shapedOpen_int (zero := #[.int .i64 0]) (t:=3) (g:=0) h (gj aq) aq rfl aq aq Tryz.underlying3;exact⟨WW hm,m,hm⟩
end Go.Proofs.YtdjfkajcchcdkaaGreat
