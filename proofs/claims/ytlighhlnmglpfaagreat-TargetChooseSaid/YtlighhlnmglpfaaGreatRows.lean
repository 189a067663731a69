/-
  No cell of these rows narrows 'for every input' (looked for: loops, veiled, ifaces, maps, wideKeys, modest, calm, conditions, laid).
  DERIVED. THE GIVEN ROWS OF THIS SEAT. 5 by the template 'for every input the law returns true; each argument reads behind the call as it read before'; 0 by the template 'total and deterministic' (their statements: YtlighhlnmglpfaaGreatTotals.lean).
  GIVEN WITH THE SEED: the statements are not yours to turn. If you find one false, say at which input.
  Laid BY PROGRAM, IN A SANDBOX (cutbox-rows.mjs): the forced cells as the released guide's own fill.sh prints them over the translation 5b4f96d7fa360abe… (all of the seat's roots in one cut). By AI agents, Wed Nov 11 2026. No macro, syntax, notation, axiom, sorry.
-/
import Derived.Test.YtlighhlnmglpfaaGreatChecked
import GoSem.Claim
import GoSem.ClaimJoined
import GoSem.ClaimMapViews
import Derived.JoinedTies
import Derived.KernelRfl
namespace Go.Proofs.YtlighhlnmglpfaaGreat
/- THE CELL 'sum', in the pinned program and in every row, IS THE sha256 OF THE DUMP (.gsa) THAT YtlighhlnmglpfaaGreatProg.lean LOADS. Nothing in Lean hashes anything: it is a label: what it is worth is what the hold of that sum in a sandbox is worth. -/
noncomputable def Tryz.pinned : Pinned := { name := "ytlighhlnmglpfaagreat", sum := "5b4f96d7fa360abee15b09ebfc11617d49dfc77bac4c2ab183dc85e31a7f280f", checked := Tryz.checked }
namespace Rows
def none {H : Type} : Left H := { results := [], args := [] }

/-- 'cardgamelaw38.TargetList': WHATEVER THE INPUT: true; the input reads as it did. -/
def targetListSpec : ChangeSpec := { name := "targetList", fn := fun _ => fun
  | [d1, d2, d3] => { results := [.lit (.bool true)], args := [d1, d2, d3] }
  | _ => none }
def targetListRow : OpenClaim := { program := "ytlighhlnmglpfaagreat", sum := "5b4f96d7fa360abee15b09ebfc11617d49dfc77bac4c2ab183dc85e31a7f280f", func := "cardgame/cardgamelaw38.TargetList", spec := "targetList", inPlace := ["internal/bytealg.IndexByteString", "internal/bytealg.IndexString"], unfollowed := true, recurses := true, named := ["internal/bytealg.MaxLen"], apart := false }
def TargetListSaid : Prop := targetListRow.holds Tryz.pinned (OpenSpec.ofChange targetListSpec)

/-- ITS FALSE NEIGHBOUR: 'it returns false'. Refute it at one input. -/
def targetListWrong : ChangeSpec := { name := "targetList", fn := fun _ => fun
  | [d1, d2, d3] => { results := [.lit (.bool false)], args := [d1, d2, d3] }
  | _ => none }
def TargetListWrongFalsely : Prop := targetListRow.holds Tryz.pinned (OpenSpec.ofChange targetListWrong)

/-- 'cardgamelaw38.TargetKeep': WHATEVER THE INPUT: true; the input reads as it did. -/
def targetKeepSpec : ChangeSpec := { name := "targetKeep", fn := fun _ => fun
  | [d1, d2, d3] => { results := [.lit (.bool true)], args := [d1, d2, d3] }
  | _ => none }
def targetKeepRow : OpenClaim := { program := "ytlighhlnmglpfaagreat", sum := "5b4f96d7fa360abee15b09ebfc11617d49dfc77bac4c2ab183dc85e31a7f280f", func := "cardgame/cardgamelaw38.TargetKeep", spec := "targetKeep", inPlace := ["internal/bytealg.IndexByteString", "internal/bytealg.IndexString"], unfollowed := true, recurses := true, named := ["internal/bytealg.MaxLen"], apart := false }
def TargetKeepSaid : Prop := targetKeepRow.holds Tryz.pinned (OpenSpec.ofChange targetKeepSpec)

/-- ITS FALSE NEIGHBOUR: 'it returns false'. Refute it at one input. -/
def targetKeepWrong : ChangeSpec := { name := "targetKeep", fn := fun _ => fun
  | [d1, d2, d3] => { results := [.lit (.bool false)], args := [d1, d2, d3] }
  | _ => none }
def TargetKeepWrongFalsely : Prop := targetKeepRow.holds Tryz.pinned (OpenSpec.ofChange targetKeepWrong)

/-- 'cardgamelaw38.TargetLegal': WHATEVER THE INPUT: true; the input reads as it did. -/
def targetLegalSpec : ChangeSpec := { name := "targetLegal", fn := fun _ => fun
  | [d1, d2, d3] => { results := [.lit (.bool true)], args := [d1, d2, d3] }
  | _ => none }
def targetLegalRow : OpenClaim := { program := "ytlighhlnmglpfaagreat", sum := "5b4f96d7fa360abee15b09ebfc11617d49dfc77bac4c2ab183dc85e31a7f280f", func := "cardgame/cardgamelaw38.TargetLegal", spec := "targetLegal", inPlace := ["internal/bytealg.IndexByteString", "internal/bytealg.IndexString"], unfollowed := true, recurses := true, named := ["internal/bytealg.MaxLen"], apart := false }
def TargetLegalSaid : Prop := targetLegalRow.holds Tryz.pinned (OpenSpec.ofChange targetLegalSpec)

/-- ITS FALSE NEIGHBOUR: 'it returns false'. Refute it at one input. -/
def targetLegalWrong : ChangeSpec := { name := "targetLegal", fn := fun _ => fun
  | [d1, d2, d3] => { results := [.lit (.bool false)], args := [d1, d2, d3] }
  | _ => none }
def TargetLegalWrongFalsely : Prop := targetLegalRow.holds Tryz.pinned (OpenSpec.ofChange targetLegalWrong)

/-- 'cardgamelaw38.TargetWarded': WHATEVER THE INPUT: true; the input reads as it did. -/
def targetWardedSpec : ChangeSpec := { name := "targetWarded", fn := fun _ => fun
  | [d1, d2, d3] => { results := [.lit (.bool true)], args := [d1, d2, d3] }
  | _ => none }
def targetWardedRow : OpenClaim := { program := "ytlighhlnmglpfaagreat", sum := "5b4f96d7fa360abee15b09ebfc11617d49dfc77bac4c2ab183dc85e31a7f280f", func := "cardgame/cardgamelaw38.TargetWarded", spec := "targetWarded", inPlace := ["internal/bytealg.IndexByteString", "internal/bytealg.IndexString"], unfollowed := true, recurses := true, named := ["internal/bytealg.MaxLen"], apart := false }
def TargetWardedSaid : Prop := targetWardedRow.holds Tryz.pinned (OpenSpec.ofChange targetWardedSpec)

/-- ITS FALSE NEIGHBOUR: 'it returns false'. Refute it at one input. -/
def targetWardedWrong : ChangeSpec := { name := "targetWarded", fn := fun _ => fun
  | [d1, d2, d3] => { results := [.lit (.bool false)], args := [d1, d2, d3] }
  | _ => none }
def TargetWardedWrongFalsely : Prop := targetWardedRow.holds Tryz.pinned (OpenSpec.ofChange targetWardedWrong)

/-- 'cardgamelaw38.TargetChoose': WHATEVER THE INPUT: true; the input reads as it did. -/
def targetChooseSpec : ChangeSpec := { name := "targetChoose", fn := fun _ => fun
  | [d1, d2, d3] => { results := [.lit (.bool true)], args := [d1, d2, d3] }
  | _ => none }
def targetChooseRow : OpenClaim := { program := "ytlighhlnmglpfaagreat", sum := "5b4f96d7fa360abee15b09ebfc11617d49dfc77bac4c2ab183dc85e31a7f280f", func := "cardgame/cardgamelaw38.TargetChoose", spec := "targetChoose", inPlace := ["internal/bytealg.IndexByteString", "internal/bytealg.IndexString"], unfollowed := true, recurses := true, named := ["internal/bytealg.MaxLen"], apart := false }
def TargetChooseSaid : Prop := targetChooseRow.holds Tryz.pinned (OpenSpec.ofChange targetChooseSpec)

/-- ITS FALSE NEIGHBOUR: 'it returns false'. Refute it at one input. -/
def targetChooseWrong : ChangeSpec := { name := "targetChoose", fn := fun _ => fun
  | [d1, d2, d3] => { results := [.lit (.bool false)], args := [d1, d2, d3] }
  | _ => none }
def TargetChooseWrongFalsely : Prop := targetChooseRow.holds Tryz.pinned (OpenSpec.ofChange targetChooseWrong)

/- THE SECOND FORM. 'bulk': how many values and letters a reading holds, each counted each time it is reached (what is shared counts as often as it is met; a slice's spare places count too). A statement '..UptoSaid' is the law's where the arguments, and the package variables that the reading takes, are together of bulk at most 1048576: NARROWER than '..Said'. Prove '..Said' where nothing that the law and all that it calls make is longer than what came in: it says more and counts as full. Else prove '..UptoSaid'. A law counts once. -/
mutual
def uptoBulk {H : Type} : DataW H → Nat
  | .lit (.string bytes) => bytes.length + 1
  | .lit _ => 1
  | .nil => 1
  | .ptr d => uptoBulk d + 1
  | .slice elems spare => uptoBulkAll elems + uptoBulkAll spare + 1
  | .agg parts => uptoBulkAll parts + 1
  | .iface _ d => uptoBulk d + 1
  | .map entries => uptoBulkEntries entries + 1
  | .held _ => 1
def uptoBulkAll {H : Type} : List (DataW H) → Nat
  | [] => 0
  | d :: r => uptoBulk d + uptoBulkAll r
def uptoBulkEntries {H : Type} : List (Lit × DataW H) → Nat
  | [] => 0
  | x :: r => uptoBulkEntry x + uptoBulkEntries r
def uptoBulkEntry {H : Type} : Lit × DataW H → Nat
  | (.string bytes, d) => bytes.length + uptoBulk d + 1
  | (_, d) => uptoBulk d + 1
 end
def uptoSmall : (H : Type) → List (DataW H) → Bool := fun _ ds => decide (uptoBulkAll ds ≤ 1048576)
def OpenSpec.upto (s : _root_.Go.ChangeSpec) : _root_.Go.OpenSpec := { _root_.Go.OpenSpec.ofChange s with cond := some uptoSmall }

/-- 'cardgamelaw38.TargetList', WHERE WHAT IT READS IS OF BULK AT MOST 1048576: true; the input reads as it did. -/
def targetListUptoRow : OpenClaim := { program := "ytlighhlnmglpfaagreat", sum := "5b4f96d7fa360abee15b09ebfc11617d49dfc77bac4c2ab183dc85e31a7f280f", func := "cardgame/cardgamelaw38.TargetList", spec := "targetList", inPlace := ["internal/bytealg.IndexByteString", "internal/bytealg.IndexString"], unfollowed := true, recurses := true, named := ["internal/bytealg.MaxLen"], apart := false, narrowed := true }
def TargetListUptoSaid : Prop := targetListUptoRow.holds Tryz.pinned (OpenSpec.upto targetListSpec)

/-- 'cardgamelaw38.TargetKeep', WHERE WHAT IT READS IS OF BULK AT MOST 1048576: true; the input reads as it did. -/
def targetKeepUptoRow : OpenClaim := { program := "ytlighhlnmglpfaagreat", sum := "5b4f96d7fa360abee15b09ebfc11617d49dfc77bac4c2ab183dc85e31a7f280f", func := "cardgame/cardgamelaw38.TargetKeep", spec := "targetKeep", inPlace := ["internal/bytealg.IndexByteString", "internal/bytealg.IndexString"], unfollowed := true, recurses := true, named := ["internal/bytealg.MaxLen"], apart := false, narrowed := true }
def TargetKeepUptoSaid : Prop := targetKeepUptoRow.holds Tryz.pinned (OpenSpec.upto targetKeepSpec)

/-- 'cardgamelaw38.TargetLegal', WHERE WHAT IT READS IS OF BULK AT MOST 1048576: true; the input reads as it did. -/
def targetLegalUptoRow : OpenClaim := { program := "ytlighhlnmglpfaagreat", sum := "5b4f96d7fa360abee15b09ebfc11617d49dfc77bac4c2ab183dc85e31a7f280f", func := "cardgame/cardgamelaw38.TargetLegal", spec := "targetLegal", inPlace := ["internal/bytealg.IndexByteString", "internal/bytealg.IndexString"], unfollowed := true, recurses := true, named := ["internal/bytealg.MaxLen"], apart := false, narrowed := true }
def TargetLegalUptoSaid : Prop := targetLegalUptoRow.holds Tryz.pinned (OpenSpec.upto targetLegalSpec)

/-- 'cardgamelaw38.TargetWarded', WHERE WHAT IT READS IS OF BULK AT MOST 1048576: true; the input reads as it did. -/
def targetWardedUptoRow : OpenClaim := { program := "ytlighhlnmglpfaagreat", sum := "5b4f96d7fa360abee15b09ebfc11617d49dfc77bac4c2ab183dc85e31a7f280f", func := "cardgame/cardgamelaw38.TargetWarded", spec := "targetWarded", inPlace := ["internal/bytealg.IndexByteString", "internal/bytealg.IndexString"], unfollowed := true, recurses := true, named := ["internal/bytealg.MaxLen"], apart := false, narrowed := true }
def TargetWardedUptoSaid : Prop := targetWardedUptoRow.holds Tryz.pinned (OpenSpec.upto targetWardedSpec)

/-- 'cardgamelaw38.TargetChoose', WHERE WHAT IT READS IS OF BULK AT MOST 1048576: true; the input reads as it did. -/
def targetChooseUptoRow : OpenClaim := { program := "ytlighhlnmglpfaagreat", sum := "5b4f96d7fa360abee15b09ebfc11617d49dfc77bac4c2ab183dc85e31a7f280f", func := "cardgame/cardgamelaw38.TargetChoose", spec := "targetChoose", inPlace := ["internal/bytealg.IndexByteString", "internal/bytealg.IndexString"], unfollowed := true, recurses := true, named := ["internal/bytealg.MaxLen"], apart := false, narrowed := true }
def TargetChooseUptoSaid : Prop := targetChooseUptoRow.holds Tryz.pinned (OpenSpec.upto targetChooseSpec)

end Rows
end Go.Proofs.YtlighhlnmglpfaaGreat
