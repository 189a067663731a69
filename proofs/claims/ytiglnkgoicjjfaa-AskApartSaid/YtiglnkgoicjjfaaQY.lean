import Derived.Test.YtiglnkgoicjjfaaRows
import Derived.Test.YtiglnkgoicjjfaaQO
import Derived.Test.YtiglnkgoicjjfaaQX
import Derived.Test.YtiglnkgoicjjfaaPwY
import Derived.HandedShaped
import Derived.ProofKit
set_option linter.all false
namespace Go.Proofs.Ytiglnkgoicjjfaa
open Go.ChangeShapes Go.WideShapes Go.ChangeAt Go.RowKit Go.PW
theorem Try.own:ownKnob Try.prog.godebug=none:=by kernel_rfl
theorem Try.laidOut:laidOutB Try.prog=true:=by kernel_rfl
theorem Z09(W:World):Zqs W:=fun g k hg=>by cases hg
end Go.Proofs.Ytiglnkgoicjjfaa
