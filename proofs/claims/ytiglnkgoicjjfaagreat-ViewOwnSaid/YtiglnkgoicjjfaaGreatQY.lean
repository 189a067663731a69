import Derived.Test.YtiglnkgoicjjfaaGreatRows
import Derived.Test.YtiglnkgoicjjfaaGreatQO
import Derived.Test.YtiglnkgoicjjfaaGreatQV
import Derived.Test.YtiglnkgoicjjfaaGreatPwY
import Derived.HandedShaped
import Derived.ProofKit
set_option linter.all false
namespace Go.Proofs.YtiglnkgoicjjfaaGreat
open Go.ChangeShapes Go.WideShapes Go.ChangeAt Go.RowKit Go.PW
theorem Tryz.own:ownKnob Tryz.prog.godebug=none:=by kernel_rfl
theorem Tryz.laidOut:laidOutB Tryz.prog=true:=by kernel_rfl
theorem Za1a(W:World):Zak9 W:=fun g k hg=>by cases hg
end Go.Proofs.YtiglnkgoicjjfaaGreat
