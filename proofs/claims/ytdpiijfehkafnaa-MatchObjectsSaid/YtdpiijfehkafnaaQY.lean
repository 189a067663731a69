import Derived.Test.YtdpiijfehkafnaaRows
import Derived.Test.YtdpiijfehkafnaaQO
import Derived.Test.YtdpiijfehkafnaaQC
import Derived.Test.YtdpiijfehkafnaaQPd
import Derived.Test.YtdpiijfehkafnaaQPe
import Derived.HandedShaped
namespace Go.Proofs.Ytdpiijfehkafnaa
open Go.ChangeShapes Go.WideShapes Go.ChangeAt Go.RowKit Go.PW

theorem Try.own : ownKnob Try.prog.godebug = none := by kernel_rfl
theorem Try.laidOut : laidOutB Try.prog = true := by kernel_rfl
theorem subs_of {x : api_Traits} (h : ok_api_Traits x) : Bnd x.Line.Subs.length := bnd_of h.2.2.2.1.2.2 (by decide)
end Go.Proofs.Ytdpiijfehkafnaa
