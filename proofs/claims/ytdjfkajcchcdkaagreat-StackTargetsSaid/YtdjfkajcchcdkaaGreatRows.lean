/-
  No cell of these rows narrows 'for every input' (looked for: loops, veiled, ifaces, maps, wideKeys, modest, calm, conditions, laid).
  DERIVED. THE GIVEN ROWS OF THIS SEAT. 5 by the template 'for every input the law returns true; each argument reads behind the call as it read before'; 0 by the template 'total and deterministic' (their statements: YtdjfkajcchcdkaaGreatTotals.lean).
  GIVEN WITH THE SEED: the statements are not yours to turn. If you find one false, say at which input.
  Laid BY PROGRAM, IN A SANDBOX (cutbox-rows.mjs): the forced cells as the released guide's own fill.sh prints them over the translation fc7e0167446b5f62… (all of the seat's roots in one cut). By AI agents, Wed Nov 11 2026. No macro, syntax, notation, axiom, sorry.
-/
import Derived.Test.YtdjfkajcchcdkaaGreatChecked
import GoSem.Claim
import GoSem.ClaimJoined
import GoSem.ClaimMapViews
import Derived.JoinedTies
import Derived.KernelRfl
namespace Go.Proofs.YtdjfkajcchcdkaaGreat
/- THE CELL 'sum', in the pinned program and in every row, IS THE sha256 OF THE DUMP (.gsa) THAT YtdjfkajcchcdkaaGreatProg.lean LOADS. Nothing in Lean hashes anything: it is a label: what it is worth is what the hold of that sum in a sandbox is worth. -/
noncomputable def Tryz.pinned : Pinned := { name := "ytdjfkajcchcdkaagreat", sum := "fc7e0167446b5f62110b62d54e9b8b8708909344bb6cb809880ea29f459a8954", checked := Tryz.checked }
namespace Rows
def none {H : Type} : Left H := { results := [], args := [] }

/-- 'cardgamelaw42.StackPush': WHATEVER THE INPUT: true; the input reads as it did. -/
def stackPushSpec : ChangeSpec := { name := "stackPush", fn := fun _ => fun
  | [d1, d2, d3] => { results := [.lit (.bool true)], args := [d1, d2, d3] }
  | _ => none }
def stackPushRow : OpenClaim := { program := "ytdjfkajcchcdkaagreat", sum := "fc7e0167446b5f62110b62d54e9b8b8708909344bb6cb809880ea29f459a8954", func := "cardgame/cardgamelaw42.StackPush", spec := "stackPush", inPlace := ["slices.overlaps[int]", "internal/bytealg.IndexByteString", "internal/bytealg.IndexString", "slices.overlaps[string]"], unfollowed := true, recurses := true, named := ["internal/bytealg.MaxLen"], apart := false }
def StackPushSaid : Prop := stackPushRow.holds Tryz.pinned (OpenSpec.ofChange stackPushSpec)

/-- ITS FALSE NEIGHBOUR: 'it returns false'. Refute it at one input. -/
def stackPushWrong : ChangeSpec := { name := "stackPush", fn := fun _ => fun
  | [d1, d2, d3] => { results := [.lit (.bool false)], args := [d1, d2, d3] }
  | _ => none }
def StackPushWrongFalsely : Prop := stackPushRow.holds Tryz.pinned (OpenSpec.ofChange stackPushWrong)

/-- 'cardgamelaw42.StackFull': WHATEVER THE INPUT: true; the input reads as it did. -/
def stackFullSpec : ChangeSpec := { name := "stackFull", fn := fun _ => fun
  | [d1, d2, d3] => { results := [.lit (.bool true)], args := [d1, d2, d3] }
  | _ => none }
def stackFullRow : OpenClaim := { program := "ytdjfkajcchcdkaagreat", sum := "fc7e0167446b5f62110b62d54e9b8b8708909344bb6cb809880ea29f459a8954", func := "cardgame/cardgamelaw42.StackFull", spec := "stackFull", inPlace := ["slices.overlaps[int]", "internal/bytealg.IndexByteString", "internal/bytealg.IndexString", "slices.overlaps[string]"], unfollowed := true, recurses := true, named := ["internal/bytealg.MaxLen"], apart := false }
def StackFullSaid : Prop := stackFullRow.holds Tryz.pinned (OpenSpec.ofChange stackFullSpec)

/-- ITS FALSE NEIGHBOUR: 'it returns false'. Refute it at one input. -/
def stackFullWrong : ChangeSpec := { name := "stackFull", fn := fun _ => fun
  | [d1, d2, d3] => { results := [.lit (.bool false)], args := [d1, d2, d3] }
  | _ => none }
def StackFullWrongFalsely : Prop := stackFullRow.holds Tryz.pinned (OpenSpec.ofChange stackFullWrong)

/-- 'cardgamelaw42.StackOrder': WHATEVER THE INPUT: true; the input reads as it did. -/
def stackOrderSpec : ChangeSpec := { name := "stackOrder", fn := fun _ => fun
  | [d1, d2, d3] => { results := [.lit (.bool true)], args := [d1, d2, d3] }
  | _ => none }
def stackOrderRow : OpenClaim := { program := "ytdjfkajcchcdkaagreat", sum := "fc7e0167446b5f62110b62d54e9b8b8708909344bb6cb809880ea29f459a8954", func := "cardgame/cardgamelaw42.StackOrder", spec := "stackOrder", inPlace := ["slices.overlaps[int]", "internal/bytealg.IndexByteString", "internal/bytealg.IndexString", "slices.overlaps[string]"], unfollowed := true, recurses := true, named := ["internal/bytealg.MaxLen"], apart := false }
def StackOrderSaid : Prop := stackOrderRow.holds Tryz.pinned (OpenSpec.ofChange stackOrderSpec)

/-- ITS FALSE NEIGHBOUR: 'it returns false'. Refute it at one input. -/
def stackOrderWrong : ChangeSpec := { name := "stackOrder", fn := fun _ => fun
  | [d1, d2, d3] => { results := [.lit (.bool false)], args := [d1, d2, d3] }
  | _ => none }
def StackOrderWrongFalsely : Prop := stackOrderRow.holds Tryz.pinned (OpenSpec.ofChange stackOrderWrong)

/-- 'cardgamelaw42.StackTargets': WHATEVER THE INPUT: true; the input reads as it did. -/
def stackTargetsSpec : ChangeSpec := { name := "stackTargets", fn := fun _ => fun
  | [d1, d2, d3] => { results := [.lit (.bool true)], args := [d1, d2, d3] }
  | _ => none }
def stackTargetsRow : OpenClaim := { program := "ytdjfkajcchcdkaagreat", sum := "fc7e0167446b5f62110b62d54e9b8b8708909344bb6cb809880ea29f459a8954", func := "cardgame/cardgamelaw42.StackTargets", spec := "stackTargets", inPlace := ["slices.overlaps[int]", "internal/bytealg.IndexByteString", "internal/bytealg.IndexString", "slices.overlaps[string]"], unfollowed := true, recurses := true, named := ["internal/bytealg.MaxLen"], apart := false }
def StackTargetsSaid : Prop := stackTargetsRow.holds Tryz.pinned (OpenSpec.ofChange stackTargetsSpec)

/-- ITS FALSE NEIGHBOUR: 'it returns false'. Refute it at one input. -/
def stackTargetsWrong : ChangeSpec := { name := "stackTargets", fn := fun _ => fun
  | [d1, d2, d3] => { results := [.lit (.bool false)], args := [d1, d2, d3] }
  | _ => none }
def StackTargetsWrongFalsely : Prop := stackTargetsRow.holds Tryz.pinned (OpenSpec.ofChange stackTargetsWrong)

/-- 'cardgamelaw42.StackTriggers': WHATEVER THE INPUT: true; the input reads as it did. -/
def stackTriggersSpec : ChangeSpec := { name := "stackTriggers", fn := fun _ => fun
  | [d1, d2, d3] => { results := [.lit (.bool true)], args := [d1, d2, d3] }
  | _ => none }
def stackTriggersRow : OpenClaim := { program := "ytdjfkajcchcdkaagreat", sum := "fc7e0167446b5f62110b62d54e9b8b8708909344bb6cb809880ea29f459a8954", func := "cardgame/cardgamelaw42.StackTriggers", spec := "stackTriggers", inPlace := ["slices.overlaps[int]", "internal/bytealg.IndexByteString", "internal/bytealg.IndexString", "slices.overlaps[string]"], unfollowed := true, recurses := true, named := ["internal/bytealg.MaxLen"], apart := false }
def StackTriggersSaid : Prop := stackTriggersRow.holds Tryz.pinned (OpenSpec.ofChange stackTriggersSpec)

/-- ITS FALSE NEIGHBOUR: 'it returns false'. Refute it at one input. -/
def stackTriggersWrong : ChangeSpec := { name := "stackTriggers", fn := fun _ => fun
  | [d1, d2, d3] => { results := [.lit (.bool false)], args := [d1, d2, d3] }
  | _ => none }
def StackTriggersWrongFalsely : Prop := stackTriggersRow.holds Tryz.pinned (OpenSpec.ofChange stackTriggersWrong)

/- THE SECOND FORM. 'bulk': how many values and letters a reading holds, each counted each time it is reached (what is shared counts as often as it is met; a slice's spare places count too). A statement '..UptoSaid' is the law's where the arguments, and the package variables that the reading takes, are together of bulk at most 1048576: NARROWER than '..Said'. Prove '..Said' where nothing that the law and all that it calls make is longer than what came in: it says more and counts as full. Else prove '..UptoSaid'. A law counts once. -/
mutual
def uptoBulk {H : Type} : DataW H → Nat
  | .lit (.string bytes) => bytes.length + 1
  | .lit _ => 1
  | .nil => 1
  | .ptr d => uptoBulk d + 1
  | .slice elems spare => uptoBulkAll elems + uptoBulkAll spare + 1
  | .agg parts => uptoBulkAll parts + 1
  | .iface _ d => uptoBulk d + 1
  | .map entries => uptoBulkEntries entries + 1
  | .held _ => 1
def uptoBulkAll {H : Type} : List (DataW H) → Nat
  | [] => 0
  | d :: r => uptoBulk d + uptoBulkAll r
def uptoBulkEntries {H : Type} : List (Lit × DataW H) → Nat
  | [] => 0
  | x :: r => uptoBulkEntry x + uptoBulkEntries r
def uptoBulkEntry {H : Type} : Lit × DataW H → Nat
  | (.string bytes, d) => bytes.length + uptoBulk d + 1
  | (_, d) => uptoBulk d + 1
 end
def uptoSmall : (H : Type) → List (DataW H) → Bool := fun _ ds => decide (uptoBulkAll ds ≤ 1048576)
def OpenSpec.upto (s : _root_.Go.ChangeSpec) : _root_.Go.OpenSpec := { _root_.Go.OpenSpec.ofChange s with cond := some uptoSmall }

/-- 'cardgamelaw42.StackPush', WHERE WHAT IT READS IS OF BULK AT MOST 1048576: true; the input reads as it did. -/
def stackPushUptoRow : OpenClaim := { program := "ytdjfkajcchcdkaagreat", sum := "fc7e0167446b5f62110b62d54e9b8b8708909344bb6cb809880ea29f459a8954", func := "cardgame/cardgamelaw42.StackPush", spec := "stackPush", inPlace := ["slices.overlaps[int]", "internal/bytealg.IndexByteString", "internal/bytealg.IndexString", "slices.overlaps[string]"], unfollowed := true, recurses := true, named := ["internal/bytealg.MaxLen"], apart := false, narrowed := true }
def StackPushUptoSaid : Prop := stackPushUptoRow.holds Tryz.pinned (OpenSpec.upto stackPushSpec)

/-- 'cardgamelaw42.StackFull', WHERE WHAT IT READS IS OF BULK AT MOST 1048576: true; the input reads as it did. -/
def stackFullUptoRow : OpenClaim := { program := "ytdjfkajcchcdkaagreat", sum := "fc7e0167446b5f62110b62d54e9b8b8708909344bb6cb809880ea29f459a8954", func := "cardgame/cardgamelaw42.StackFull", spec := "stackFull", inPlace := ["slices.overlaps[int]", "internal/bytealg.IndexByteString", "internal/bytealg.IndexString", "slices.overlaps[string]"], unfollowed := true, recurses := true, named := ["internal/bytealg.MaxLen"], apart := false, narrowed := true }
def StackFullUptoSaid : Prop := stackFullUptoRow.holds Tryz.pinned (OpenSpec.upto stackFullSpec)

/-- 'cardgamelaw42.StackOrder', WHERE WHAT IT READS IS OF BULK AT MOST 1048576: true; the input reads as it did. -/
def stackOrderUptoRow : OpenClaim := { program := "ytdjfkajcchcdkaagreat", sum := "fc7e0167446b5f62110b62d54e9b8b8708909344bb6cb809880ea29f459a8954", func := "cardgame/cardgamelaw42.StackOrder", spec := "stackOrder", inPlace := ["slices.overlaps[int]", "internal/bytealg.IndexByteString", "internal/bytealg.IndexString", "slices.overlaps[string]"], unfollowed := true, recurses := true, named := ["internal/bytealg.MaxLen"], apart := false, narrowed := true }
def StackOrderUptoSaid : Prop := stackOrderUptoRow.holds Tryz.pinned (OpenSpec.upto stackOrderSpec)

/-- 'cardgamelaw42.StackTargets', WHERE WHAT IT READS IS OF BULK AT MOST 1048576: true; the input reads as it did. -/
def stackTargetsUptoRow : OpenClaim := { program := "ytdjfkajcchcdkaagreat", sum := "fc7e0167446b5f62110b62d54e9b8b8708909344bb6cb809880ea29f459a8954", func := "cardgame/cardgamelaw42.StackTargets", spec := "stackTargets", inPlace := ["slices.overlaps[int]", "internal/bytealg.IndexByteString", "internal/bytealg.IndexString", "slices.overlaps[string]"], unfollowed := true, recurses := true, named := ["internal/bytealg.MaxLen"], apart := false, narrowed := true }
def StackTargetsUptoSaid : Prop := stackTargetsUptoRow.holds Tryz.pinned (OpenSpec.upto stackTargetsSpec)

/-- 'cardgamelaw42.StackTriggers', WHERE WHAT IT READS IS OF BULK AT MOST 1048576: true; the input reads as it did. -/
def stackTriggersUptoRow : OpenClaim := { program := "ytdjfkajcchcdkaagreat", sum := "fc7e0167446b5f62110b62d54e9b8b8708909344bb6cb809880ea29f459a8954", func := "cardgame/cardgamelaw42.StackTriggers", spec := "stackTriggers", inPlace := ["slices.overlaps[int]", "internal/bytealg.IndexByteString", "internal/bytealg.IndexString", "slices.overlaps[string]"], unfollowed := true, recurses := true, named := ["internal/bytealg.MaxLen"], apart := false, narrowed := true }
def StackTriggersUptoSaid : Prop := stackTriggersUptoRow.holds Tryz.pinned (OpenSpec.upto stackTriggersSpec)

end Rows
end Go.Proofs.YtdjfkajcchcdkaaGreat
