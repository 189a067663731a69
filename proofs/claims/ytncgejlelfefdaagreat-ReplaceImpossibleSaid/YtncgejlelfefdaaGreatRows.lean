/-
  No cell of these rows narrows 'for every input' (looked for: loops, veiled, ifaces, maps, wideKeys, modest, calm, conditions, laid).
  DERIVED. THE GIVEN ROWS OF THIS SEAT. 5 by the template 'for every input the law returns true; each argument reads behind the call as it read before'; 0 by the template 'total and deterministic' (their statements: YtncgejlelfefdaaGreatTotals.lean).
  GIVEN WITH THE SEED: the statements are not yours to turn. If you find one false, say at which input.
  Laid BY PROGRAM, IN A SANDBOX (cutbox-rows.mjs): the forced cells as the released guide's own fill.sh prints them over the translation 8b43c5c8148ccdf2… (all of the seat's roots in one cut). By AI agents, Wed Nov 11 2026. No macro, syntax, notation, axiom, sorry.
-/
import Derived.Test.YtncgejlelfefdaaGreatChecked
import GoSem.Claim
import GoSem.ClaimJoined
import GoSem.ClaimMapViews
import Derived.JoinedTies
import Derived.KernelRfl
namespace Go.Proofs.YtncgejlelfefdaaGreat
/- THE CELL 'sum', in the pinned program and in every row, IS THE sha256 OF THE DUMP (.gsa) THAT YtncgejlelfefdaaGreatProg.lean LOADS. Nothing in Lean hashes anything: it is a label: what it is worth is what the hold of that sum in a sandbox is worth. -/
noncomputable def Tryz.pinned : Pinned := { name := "ytncgejlelfefdaagreat", sum := "8b43c5c8148ccdf2d86a697b776551fbf31e314e6d14787ff4413da75ea35895", checked := Tryz.checked }
namespace Rows
def none {H : Type} : Left H := { results := [], args := [] }

/-- 'cardgamelaw34.ReplaceList': WHATEVER THE INPUT: true; the input reads as it did. -/
def replaceListSpec : ChangeSpec := { name := "replaceList", fn := fun _ => fun
  | [d1, d2, d3] => { results := [.lit (.bool true)], args := [d1, d2, d3] }
  | _ => none }
def replaceListRow : OpenClaim := { program := "ytncgejlelfefdaagreat", sum := "8b43c5c8148ccdf2d86a697b776551fbf31e314e6d14787ff4413da75ea35895", func := "cardgame/cardgamelaw34.ReplaceList", spec := "replaceList", inPlace := ["internal/bytealg.IndexByteString", "internal/bytealg.IndexString", "slices.overlaps[cardgame/api.Object]"], unfollowed := true, recurses := true, named := ["internal/bytealg.MaxLen"], apart := false }
def ReplaceListSaid : Prop := replaceListRow.holds Tryz.pinned (OpenSpec.ofChange replaceListSpec)

/-- ITS FALSE NEIGHBOUR: 'it returns false'. Refute it at one input. -/
def replaceListWrong : ChangeSpec := { name := "replaceList", fn := fun _ => fun
  | [d1, d2, d3] => { results := [.lit (.bool false)], args := [d1, d2, d3] }
  | _ => none }
def ReplaceListWrongFalsely : Prop := replaceListRow.holds Tryz.pinned (OpenSpec.ofChange replaceListWrong)

/-- 'cardgamelaw34.ReplaceApply': WHATEVER THE INPUT: true; the input reads as it did. -/
def replaceApplySpec : ChangeSpec := { name := "replaceApply", fn := fun _ => fun
  | [d1, d2, d3] => { results := [.lit (.bool true)], args := [d1, d2, d3] }
  | _ => none }
def replaceApplyRow : OpenClaim := { program := "ytncgejlelfefdaagreat", sum := "8b43c5c8148ccdf2d86a697b776551fbf31e314e6d14787ff4413da75ea35895", func := "cardgame/cardgamelaw34.ReplaceApply", spec := "replaceApply", inPlace := ["internal/bytealg.IndexByteString", "internal/bytealg.IndexString", "slices.overlaps[cardgame/api.Object]"], unfollowed := true, recurses := true, named := ["internal/bytealg.MaxLen"], apart := false }
def ReplaceApplySaid : Prop := replaceApplyRow.holds Tryz.pinned (OpenSpec.ofChange replaceApplySpec)

/-- ITS FALSE NEIGHBOUR: 'it returns false'. Refute it at one input. -/
def replaceApplyWrong : ChangeSpec := { name := "replaceApply", fn := fun _ => fun
  | [d1, d2, d3] => { results := [.lit (.bool false)], args := [d1, d2, d3] }
  | _ => none }
def ReplaceApplyWrongFalsely : Prop := replaceApplyRow.holds Tryz.pinned (OpenSpec.ofChange replaceApplyWrong)

/-- 'cardgamelaw34.ReplaceShields': WHATEVER THE INPUT: true; the input reads as it did. -/
def replaceShieldsSpec : ChangeSpec := { name := "replaceShields", fn := fun _ => fun
  | [d1, d2, d3] => { results := [.lit (.bool true)], args := [d1, d2, d3] }
  | _ => none }
def replaceShieldsRow : OpenClaim := { program := "ytncgejlelfefdaagreat", sum := "8b43c5c8148ccdf2d86a697b776551fbf31e314e6d14787ff4413da75ea35895", func := "cardgame/cardgamelaw34.ReplaceShields", spec := "replaceShields", inPlace := ["internal/bytealg.IndexByteString", "internal/bytealg.IndexString", "slices.overlaps[cardgame/api.Object]"], unfollowed := true, recurses := true, named := ["internal/bytealg.MaxLen"], apart := false }
def ReplaceShieldsSaid : Prop := replaceShieldsRow.holds Tryz.pinned (OpenSpec.ofChange replaceShieldsSpec)

/-- ITS FALSE NEIGHBOUR: 'it returns false'. Refute it at one input. -/
def replaceShieldsWrong : ChangeSpec := { name := "replaceShields", fn := fun _ => fun
  | [d1, d2, d3] => { results := [.lit (.bool false)], args := [d1, d2, d3] }
  | _ => none }
def ReplaceShieldsWrongFalsely : Prop := replaceShieldsRow.holds Tryz.pinned (OpenSpec.ofChange replaceShieldsWrong)

/-- 'cardgamelaw34.ReplaceKinds': WHATEVER THE INPUT: true; the input reads as it did. -/
def replaceKindsSpec : ChangeSpec := { name := "replaceKinds", fn := fun _ => fun
  | [d1, d2, d3] => { results := [.lit (.bool true)], args := [d1, d2, d3] }
  | _ => none }
def replaceKindsRow : OpenClaim := { program := "ytncgejlelfefdaagreat", sum := "8b43c5c8148ccdf2d86a697b776551fbf31e314e6d14787ff4413da75ea35895", func := "cardgame/cardgamelaw34.ReplaceKinds", spec := "replaceKinds", inPlace := ["internal/bytealg.IndexByteString", "internal/bytealg.IndexString", "slices.overlaps[cardgame/api.Object]"], unfollowed := true, recurses := true, named := ["internal/bytealg.MaxLen"], apart := false }
def ReplaceKindsSaid : Prop := replaceKindsRow.holds Tryz.pinned (OpenSpec.ofChange replaceKindsSpec)

/-- ITS FALSE NEIGHBOUR: 'it returns false'. Refute it at one input. -/
def replaceKindsWrong : ChangeSpec := { name := "replaceKinds", fn := fun _ => fun
  | [d1, d2, d3] => { results := [.lit (.bool false)], args := [d1, d2, d3] }
  | _ => none }
def ReplaceKindsWrongFalsely : Prop := replaceKindsRow.holds Tryz.pinned (OpenSpec.ofChange replaceKindsWrong)

/-- 'cardgamelaw34.ReplaceImpossible': WHATEVER THE INPUT: true; the input reads as it did. -/
def replaceImpossibleSpec : ChangeSpec := { name := "replaceImpossible", fn := fun _ => fun
  | [d1, d2, d3] => { results := [.lit (.bool true)], args := [d1, d2, d3] }
  | _ => none }
def replaceImpossibleRow : OpenClaim := { program := "ytncgejlelfefdaagreat", sum := "8b43c5c8148ccdf2d86a697b776551fbf31e314e6d14787ff4413da75ea35895", func := "cardgame/cardgamelaw34.ReplaceImpossible", spec := "replaceImpossible", inPlace := ["internal/bytealg.IndexByteString", "internal/bytealg.IndexString", "slices.overlaps[cardgame/api.Object]"], unfollowed := true, recurses := true, named := ["internal/bytealg.MaxLen"], apart := false }
def ReplaceImpossibleSaid : Prop := replaceImpossibleRow.holds Tryz.pinned (OpenSpec.ofChange replaceImpossibleSpec)

/-- ITS FALSE NEIGHBOUR: 'it returns false'. Refute it at one input. -/
def replaceImpossibleWrong : ChangeSpec := { name := "replaceImpossible", fn := fun _ => fun
  | [d1, d2, d3] => { results := [.lit (.bool false)], args := [d1, d2, d3] }
  | _ => none }
def ReplaceImpossibleWrongFalsely : Prop := replaceImpossibleRow.holds Tryz.pinned (OpenSpec.ofChange replaceImpossibleWrong)

/- THE SECOND FORM. 'bulk': how many values and letters a reading holds, each counted each time it is reached (what is shared counts as often as it is met; a slice's spare places count too). A statement '..UptoSaid' is the law's where the arguments, and the package variables that the reading takes, are together of bulk at most 1048576: NARROWER than '..Said'. Prove '..Said' where nothing that the law and all that it calls make is longer than what came in: it says more and counts as full. Else prove '..UptoSaid'. A law counts once. -/
mutual
def uptoBulk {H : Type} : DataW H → Nat
  | .lit (.string bytes) => bytes.length + 1
  | .lit _ => 1
  | .nil => 1
  | .ptr d => uptoBulk d + 1
  | .slice elems spare => uptoBulkAll elems + uptoBulkAll spare + 1
  | .agg parts => uptoBulkAll parts + 1
  | .iface _ d => uptoBulk d + 1
  | .map entries => uptoBulkEntries entries + 1
  | .held _ => 1
def uptoBulkAll {H : Type} : List (DataW H) → Nat
  | [] => 0
  | d :: r => uptoBulk d + uptoBulkAll r
def uptoBulkEntries {H : Type} : List (Lit × DataW H) → Nat
  | [] => 0
  | x :: r => uptoBulkEntry x + uptoBulkEntries r
def uptoBulkEntry {H : Type} : Lit × DataW H → Nat
  | (.string bytes, d) => bytes.length + uptoBulk d + 1
  | (_, d) => uptoBulk d + 1
 end
def uptoSmall : (H : Type) → List (DataW H) → Bool := fun _ ds => decide (uptoBulkAll ds ≤ 1048576)
def OpenSpec.upto (s : _root_.Go.ChangeSpec) : _root_.Go.OpenSpec := { _root_.Go.OpenSpec.ofChange s with cond := some uptoSmall }

/-- 'cardgamelaw34.ReplaceList', WHERE WHAT IT READS IS OF BULK AT MOST 1048576: true; the input reads as it did. -/
def replaceListUptoRow : OpenClaim := { program := "ytncgejlelfefdaagreat", sum := "8b43c5c8148ccdf2d86a697b776551fbf31e314e6d14787ff4413da75ea35895", func := "cardgame/cardgamelaw34.ReplaceList", spec := "replaceList", inPlace := ["internal/bytealg.IndexByteString", "internal/bytealg.IndexString", "slices.overlaps[cardgame/api.Object]"], unfollowed := true, recurses := true, named := ["internal/bytealg.MaxLen"], apart := false, narrowed := true }
def ReplaceListUptoSaid : Prop := replaceListUptoRow.holds Tryz.pinned (OpenSpec.upto replaceListSpec)

/-- 'cardgamelaw34.ReplaceApply', WHERE WHAT IT READS IS OF BULK AT MOST 1048576: true; the input reads as it did. -/
def replaceApplyUptoRow : OpenClaim := { program := "ytncgejlelfefdaagreat", sum := "8b43c5c8148ccdf2d86a697b776551fbf31e314e6d14787ff4413da75ea35895", func := "cardgame/cardgamelaw34.ReplaceApply", spec := "replaceApply", inPlace := ["internal/bytealg.IndexByteString", "internal/bytealg.IndexString", "slices.overlaps[cardgame/api.Object]"], unfollowed := true, recurses := true, named := ["internal/bytealg.MaxLen"], apart := false, narrowed := true }
def ReplaceApplyUptoSaid : Prop := replaceApplyUptoRow.holds Tryz.pinned (OpenSpec.upto replaceApplySpec)

/-- 'cardgamelaw34.ReplaceShields', WHERE WHAT IT READS IS OF BULK AT MOST 1048576: true; the input reads as it did. -/
def replaceShieldsUptoRow : OpenClaim := { program := "ytncgejlelfefdaagreat", sum := "8b43c5c8148ccdf2d86a697b776551fbf31e314e6d14787ff4413da75ea35895", func := "cardgame/cardgamelaw34.ReplaceShields", spec := "replaceShields", inPlace := ["internal/bytealg.IndexByteString", "internal/bytealg.IndexString", "slices.overlaps[cardgame/api.Object]"], unfollowed := true, recurses := true, named := ["internal/bytealg.MaxLen"], apart := false, narrowed := true }
def ReplaceShieldsUptoSaid : Prop := replaceShieldsUptoRow.holds Tryz.pinned (OpenSpec.upto replaceShieldsSpec)

/-- 'cardgamelaw34.ReplaceKinds', WHERE WHAT IT READS IS OF BULK AT MOST 1048576: true; the input reads as it did. -/
def replaceKindsUptoRow : OpenClaim := { program := "ytncgejlelfefdaagreat", sum := "8b43c5c8148ccdf2d86a697b776551fbf31e314e6d14787ff4413da75ea35895", func := "cardgame/cardgamelaw34.ReplaceKinds", spec := "replaceKinds", inPlace := ["internal/bytealg.IndexByteString", "internal/bytealg.IndexString", "slices.overlaps[cardgame/api.Object]"], unfollowed := true, recurses := true, named := ["internal/bytealg.MaxLen"], apart := false, narrowed := true }
def ReplaceKindsUptoSaid : Prop := replaceKindsUptoRow.holds Tryz.pinned (OpenSpec.upto replaceKindsSpec)

/-- 'cardgamelaw34.ReplaceImpossible', WHERE WHAT IT READS IS OF BULK AT MOST 1048576: true; the input reads as it did. -/
def replaceImpossibleUptoRow : OpenClaim := { program := "ytncgejlelfefdaagreat", sum := "8b43c5c8148ccdf2d86a697b776551fbf31e314e6d14787ff4413da75ea35895", func := "cardgame/cardgamelaw34.ReplaceImpossible", spec := "replaceImpossible", inPlace := ["internal/bytealg.IndexByteString", "internal/bytealg.IndexString", "slices.overlaps[cardgame/api.Object]"], unfollowed := true, recurses := true, named := ["internal/bytealg.MaxLen"], apart := false, narrowed := true }
def ReplaceImpossibleUptoSaid : Prop := replaceImpossibleUptoRow.holds Tryz.pinned (OpenSpec.upto replaceImpossibleSpec)

end Rows
end Go.Proofs.YtncgejlelfefdaaGreat
