import Derived.Test.YthnagpmgjlnioaaRows
import Derived.Test.YthnagpmgjlnioaaQO
import Derived.Test.YthnagpmgjlnioaaQPd
import Derived.HandedShaped
namespace Go.Proofs.Ythnagpmgjlnioaa
open Go.ChangeShapes Go.WideShapes Go.ChangeAt Go.RowKit Go.PW

theorem Try.own : ownKnob Try.prog.godebug = none := by kernel_rfl
theorem Try.laidOut : laidOutB Try.prog = true := by kernel_rfl
theorem small_of {x : api_Choice} (h : ok_api_Choice x) : small x := h.2.2.2.2.2.2.1
theorem okAs_of {x : List (List Int)} {Q : Int → Prop} (h : OkL 24 (OkL 8 Q) x) : okAs x := ⟨h.1, fun a ha => (h.2 a ha).1⟩
theorem smalls_of {s : Nat} {x : List api_Choice} (h : OkL s ok_api_Choice x) : ∀ c ∈ x, small c := fun c hc => small_of (h.2 c hc)
theorem fits_of {s : Nat} {α : Type} {Q : α → Prop} {x : List α} (h : OkL s Q x) (hs : 0 < s) : x.length ≤ 4611686018427387904 := by
  have := len_le h.1 hs
  omega
end Go.Proofs.Ythnagpmgjlnioaa
