import Derived.Test.YtloamjgjcjandaaGreatRows
import Derived.Test.YtloamjgjcjandaaGreatQO
import Derived.Test.YtloamjgjcjandaaGreatQDc
import Derived.Test.YtloamjgjcjandaaGreatQPg
import Derived.HandedShaped
set_option linter.all false
namespace Go.Proofs.YtloamjgjcjandaaGreat
open Go.ChangeShapes Go.WideShapes Go.ChangeAt Go.RowKit Go.PW
theorem Tryz.own : ownKnob Tryz.prog.godebug = none := by kernel_rfl
theorem Tryz.laidOut : laidOutB Tryz.prog = true := by kernel_rfl
theorem Zath {P : Program} {t n e : Nat} (hu : P.underlying t = some (.array n e)) (ts : List Zg) : Z1a P t ts = .agg (ts.map .t) := by simp [Z1a, hu]
theorem Zatn (W : World) : Zaht W := fun g k hg => by cases hg
end Go.Proofs.YtloamjgjcjandaaGreat
