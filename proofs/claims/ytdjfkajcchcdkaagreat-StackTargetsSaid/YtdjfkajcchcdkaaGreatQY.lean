import Derived.Test.YtdjfkajcchcdkaaGreatRows
import Derived.Test.YtdjfkajcchcdkaaGreatQO
import Derived.Test.YtdjfkajcchcdkaaGreatQC
import Derived.Test.YtdjfkajcchcdkaaGreatQXc
import Derived.Test.YtdjfkajcchcdkaaGreatPwY
import Derived.HandedShaped
import Derived.ProofKit
import Derived.OpenShut
set_option linter.all false
namespace Go.Proofs.YtdjfkajcchcdkaaGreat
open Go.ChangeShapes Go.WideShapes Go.ChangeAt Go.RowKit Go.PW
def Tryz.own:ownKnob Tryz.prog.godebug=none:=ar
def Tryz.laidOut:laidOutB Tryz.prog=true:=ar
def Zfg{W:World}{g:Nat}{v:Value}(h:W.cell? ⟨g,0,none⟩=some v):g<W.heap.size:=by
 unfold World.cell? at h;cases hx:W.heap[g]? with
 |none=>simp[hx]at h
 |some o=>exact(pa.1 hx).1
def Jp{W:World}(h:W.ShapedOpen Tryz.prog):qi W:=λg k hg=>by have hg:(g,k)∈[((0:Nat),GK.anyInt)]:=hg;cases gC.1 hg;obtain⟨m,hm⟩:=Go.Proofs.cell_of_shapedOpen_int (zero := #[.int .i64 0]) (t:=3) (g:=0) h (gE ar) ar rfl ar ar Tryz.underlying3;exact⟨Zfg hm,m,hm⟩
end Go.Proofs.YtdjfkajcchcdkaaGreat
