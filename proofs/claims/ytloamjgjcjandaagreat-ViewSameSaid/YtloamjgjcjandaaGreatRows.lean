/-
  No cell of these rows narrows 'for every input' (looked for: loops, veiled, ifaces, maps, wideKeys, modest, calm, conditions, laid).
  DERIVED. THE GIVEN ROWS OF THIS SEAT. 5 by the template 'for every input the law returns true; each argument reads behind the call as it read before'; 0 by the template 'total and deterministic' (their statements: YtloamjgjcjandaaGreatTotals.lean).
  GIVEN WITH THE SEED: the statements are not yours to turn. If you find one false, say at which input.
  Laid BY PROGRAM, IN A SANDBOX (cutbox-rows.mjs): the forced cells as the released guide's own fill.sh prints them over the translation abdea7998430f684… (all of the seat's roots in one cut). By AI agents, Wed Nov 11 2026. No macro, syntax, notation, axiom, sorry.
-/
import Derived.Test.YtloamjgjcjandaaGreatChecked
import GoSem.Claim
import GoSem.ClaimJoined
import GoSem.ClaimMapViews
import Derived.JoinedTies
import Derived.KernelRfl
namespace Go.Proofs.YtloamjgjcjandaaGreat
/- THE CELL 'sum', in the pinned program and in every row, IS THE sha256 OF THE DUMP (.gsa) THAT YtloamjgjcjandaaGreatProg.lean LOADS. Nothing in Lean hashes anything: it is a label: what it is worth is what the hold of that sum in a sandbox is worth. -/
noncomputable def Tryz.pinned : Pinned := { name := "ytloamjgjcjandaagreat", sum := "abdea7998430f6840e3cb208ef744d891d7af4ebe2bb292c5fc6e0539e33c524", checked := Tryz.checked }
namespace Rows
def none {H : Type} : Left H := { results := [], args := [] }

/-- 'cardgamelaw52.ViewKnows': WHATEVER THE INPUT: true; the input reads as it did. -/
def viewKnowsSpec : ChangeSpec := { name := "viewKnows", fn := fun _ => fun
  | [d1, d2, d3] => { results := [.lit (.bool true)], args := [d1, d2, d3] }
  | _ => none }
def viewKnowsRow : OpenClaim := { program := "ytloamjgjcjandaagreat", sum := "abdea7998430f6840e3cb208ef744d891d7af4ebe2bb292c5fc6e0539e33c524", func := "cardgame/cardgamelaw52.ViewKnows", spec := "viewKnows", unfollowed := true, recurses := true, apart := false }
def ViewKnowsSaid : Prop := viewKnowsRow.holds Tryz.pinned (OpenSpec.ofChange viewKnowsSpec)

/-- ITS FALSE NEIGHBOUR: 'it returns false'. Refute it at one input. -/
def viewKnowsWrong : ChangeSpec := { name := "viewKnows", fn := fun _ => fun
  | [d1, d2, d3] => { results := [.lit (.bool false)], args := [d1, d2, d3] }
  | _ => none }
def ViewKnowsWrongFalsely : Prop := viewKnowsRow.holds Tryz.pinned (OpenSpec.ofChange viewKnowsWrong)

/-- 'cardgamelaw52.ViewSame': WHATEVER THE INPUT: true; the input reads as it did. -/
def viewSameSpec : ChangeSpec := { name := "viewSame", fn := fun _ => fun
  | [d1, d2, d3] => { results := [.lit (.bool true)], args := [d1, d2, d3] }
  | _ => none }
def viewSameRow : OpenClaim := { program := "ytloamjgjcjandaagreat", sum := "abdea7998430f6840e3cb208ef744d891d7af4ebe2bb292c5fc6e0539e33c524", func := "cardgame/cardgamelaw52.ViewSame", spec := "viewSame", unfollowed := true, recurses := true, apart := false }
def ViewSameSaid : Prop := viewSameRow.holds Tryz.pinned (OpenSpec.ofChange viewSameSpec)

/-- ITS FALSE NEIGHBOUR: 'it returns false'. Refute it at one input. -/
def viewSameWrong : ChangeSpec := { name := "viewSame", fn := fun _ => fun
  | [d1, d2, d3] => { results := [.lit (.bool false)], args := [d1, d2, d3] }
  | _ => none }
def ViewSameWrongFalsely : Prop := viewSameRow.holds Tryz.pinned (OpenSpec.ofChange viewSameWrong)

/-- 'cardgamelaw52.ViewHides': WHATEVER THE INPUT: true; the input reads as it did. -/
def viewHidesSpec : ChangeSpec := { name := "viewHides", fn := fun _ => fun
  | [d1, d2, d3] => { results := [.lit (.bool true)], args := [d1, d2, d3] }
  | _ => none }
def viewHidesRow : OpenClaim := { program := "ytloamjgjcjandaagreat", sum := "abdea7998430f6840e3cb208ef744d891d7af4ebe2bb292c5fc6e0539e33c524", func := "cardgame/cardgamelaw52.ViewHides", spec := "viewHides", unfollowed := true, recurses := true, apart := false }
def ViewHidesSaid : Prop := viewHidesRow.holds Tryz.pinned (OpenSpec.ofChange viewHidesSpec)

/-- ITS FALSE NEIGHBOUR: 'it returns false'. Refute it at one input. -/
def viewHidesWrong : ChangeSpec := { name := "viewHides", fn := fun _ => fun
  | [d1, d2, d3] => { results := [.lit (.bool false)], args := [d1, d2, d3] }
  | _ => none }
def ViewHidesWrongFalsely : Prop := viewHidesRow.holds Tryz.pinned (OpenSpec.ofChange viewHidesWrong)

/-- 'cardgamelaw52.ViewCounts': WHATEVER THE INPUT: true; the input reads as it did. -/
def viewCountsSpec : ChangeSpec := { name := "viewCounts", fn := fun _ => fun
  | [d1, d2] => { results := [.lit (.bool true)], args := [d1, d2] }
  | _ => none }
def viewCountsRow : OpenClaim := { program := "ytloamjgjcjandaagreat", sum := "abdea7998430f6840e3cb208ef744d891d7af4ebe2bb292c5fc6e0539e33c524", func := "cardgame/cardgamelaw52.ViewCounts", spec := "viewCounts", unfollowed := true, recurses := true, apart := false }
def ViewCountsSaid : Prop := viewCountsRow.holds Tryz.pinned (OpenSpec.ofChange viewCountsSpec)

/-- ITS FALSE NEIGHBOUR: 'it returns false'. Refute it at one input. -/
def viewCountsWrong : ChangeSpec := { name := "viewCounts", fn := fun _ => fun
  | [d1, d2] => { results := [.lit (.bool false)], args := [d1, d2] }
  | _ => none }
def ViewCountsWrongFalsely : Prop := viewCountsRow.holds Tryz.pinned (OpenSpec.ofChange viewCountsWrong)

/-- 'cardgamelaw52.ViewOwn': WHATEVER THE INPUT: true; the input reads as it did. -/
def viewOwnSpec : ChangeSpec := { name := "viewOwn", fn := fun _ => fun
  | [d1, d2] => { results := [.lit (.bool true)], args := [d1, d2] }
  | _ => none }
def viewOwnRow : OpenClaim := { program := "ytloamjgjcjandaagreat", sum := "abdea7998430f6840e3cb208ef744d891d7af4ebe2bb292c5fc6e0539e33c524", func := "cardgame/cardgamelaw52.ViewOwn", spec := "viewOwn", unfollowed := true, recurses := true, apart := false }
def ViewOwnSaid : Prop := viewOwnRow.holds Tryz.pinned (OpenSpec.ofChange viewOwnSpec)

/-- ITS FALSE NEIGHBOUR: 'it returns false'. Refute it at one input. -/
def viewOwnWrong : ChangeSpec := { name := "viewOwn", fn := fun _ => fun
  | [d1, d2] => { results := [.lit (.bool false)], args := [d1, d2] }
  | _ => none }
def ViewOwnWrongFalsely : Prop := viewOwnRow.holds Tryz.pinned (OpenSpec.ofChange viewOwnWrong)

/- THE SECOND FORM. 'bulk': how many values and letters a reading holds, each counted each time it is reached (what is shared counts as often as it is met; a slice's spare places count too). A statement '..UptoSaid' is the law's where the arguments, and the package variables that the reading takes, are together of bulk at most 1048576: NARROWER than '..Said'. Prove '..Said' where nothing that the law and all that it calls make is longer than what came in: it says more and counts as full. Else prove '..UptoSaid'. A law counts once. -/
mutual
def uptoBulk {H : Type} : DataW H → Nat
  | .lit (.string bytes) => bytes.length + 1
  | .lit _ => 1
  | .nil => 1
  | .ptr d => uptoBulk d + 1
  | .slice elems spare => uptoBulkAll elems + uptoBulkAll spare + 1
  | .agg parts => uptoBulkAll parts + 1
  | .iface _ d => uptoBulk d + 1
  | .map entries => uptoBulkEntries entries + 1
  | .held _ => 1
def uptoBulkAll {H : Type} : List (DataW H) → Nat
  | [] => 0
  | d :: r => uptoBulk d + uptoBulkAll r
def uptoBulkEntries {H : Type} : List (Lit × DataW H) → Nat
  | [] => 0
  | x :: r => uptoBulkEntry x + uptoBulkEntries r
def uptoBulkEntry {H : Type} : Lit × DataW H → Nat
  | (.string bytes, d) => bytes.length + uptoBulk d + 1
  | (_, d) => uptoBulk d + 1
 end
def uptoSmall : (H : Type) → List (DataW H) → Bool := fun _ ds => decide (uptoBulkAll ds ≤ 1048576)
def OpenSpec.upto (s : _root_.Go.ChangeSpec) : _root_.Go.OpenSpec := { _root_.Go.OpenSpec.ofChange s with cond := some uptoSmall }

/-- 'cardgamelaw52.ViewKnows', WHERE WHAT IT READS IS OF BULK AT MOST 1048576: true; the input reads as it did. -/
def viewKnowsUptoRow : OpenClaim := { program := "ytloamjgjcjandaagreat", sum := "abdea7998430f6840e3cb208ef744d891d7af4ebe2bb292c5fc6e0539e33c524", func := "cardgame/cardgamelaw52.ViewKnows", spec := "viewKnows", unfollowed := true, recurses := true, apart := false, narrowed := true }
def ViewKnowsUptoSaid : Prop := viewKnowsUptoRow.holds Tryz.pinned (OpenSpec.upto viewKnowsSpec)

/-- 'cardgamelaw52.ViewSame', WHERE WHAT IT READS IS OF BULK AT MOST 1048576: true; the input reads as it did. -/
def viewSameUptoRow : OpenClaim := { program := "ytloamjgjcjandaagreat", sum := "abdea7998430f6840e3cb208ef744d891d7af4ebe2bb292c5fc6e0539e33c524", func := "cardgame/cardgamelaw52.ViewSame", spec := "viewSame", unfollowed := true, recurses := true, apart := false, narrowed := true }
def ViewSameUptoSaid : Prop := viewSameUptoRow.holds Tryz.pinned (OpenSpec.upto viewSameSpec)

/-- 'cardgamelaw52.ViewHides', WHERE WHAT IT READS IS OF BULK AT MOST 1048576: true; the input reads as it did. -/
def viewHidesUptoRow : OpenClaim := { program := "ytloamjgjcjandaagreat", sum := "abdea7998430f6840e3cb208ef744d891d7af4ebe2bb292c5fc6e0539e33c524", func := "cardgame/cardgamelaw52.ViewHides", spec := "viewHides", unfollowed := true, recurses := true, apart := false, narrowed := true }
def ViewHidesUptoSaid : Prop := viewHidesUptoRow.holds Tryz.pinned (OpenSpec.upto viewHidesSpec)

/-- 'cardgamelaw52.ViewCounts', WHERE WHAT IT READS IS OF BULK AT MOST 1048576: true; the input reads as it did. -/
def viewCountsUptoRow : OpenClaim := { program := "ytloamjgjcjandaagreat", sum := "abdea7998430f6840e3cb208ef744d891d7af4ebe2bb292c5fc6e0539e33c524", func := "cardgame/cardgamelaw52.ViewCounts", spec := "viewCounts", unfollowed := true, recurses := true, apart := false, narrowed := true }
def ViewCountsUptoSaid : Prop := viewCountsUptoRow.holds Tryz.pinned (OpenSpec.upto viewCountsSpec)

/-- 'cardgamelaw52.ViewOwn', WHERE WHAT IT READS IS OF BULK AT MOST 1048576: true; the input reads as it did. -/
def viewOwnUptoRow : OpenClaim := { program := "ytloamjgjcjandaagreat", sum := "abdea7998430f6840e3cb208ef744d891d7af4ebe2bb292c5fc6e0539e33c524", func := "cardgame/cardgamelaw52.ViewOwn", spec := "viewOwn", unfollowed := true, recurses := true, apart := false, narrowed := true }
def ViewOwnUptoSaid : Prop := viewOwnUptoRow.holds Tryz.pinned (OpenSpec.upto viewOwnSpec)

end Rows
end Go.Proofs.YtloamjgjcjandaaGreat
