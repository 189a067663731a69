import Derived.Test.YteckdmdhkehfnaaRows
import Derived.Test.YteckdmdhkehfnaaQO
import Derived.Test.YteckdmdhkehfnaaQPc
import Derived.HandedShaped
namespace Go.Proofs.Yteckdmdhkehfnaa
open Go.ChangeShapes Go.WideShapes Go.ChangeAt Go.RowKit Go.PW

theorem Try.own : ownKnob Try.prog.godebug = none := by kernel_rfl
theorem Try.laidOut : laidOutB Try.prog = true := by kernel_rfl
end Go.Proofs.Yteckdmdhkehfnaa
