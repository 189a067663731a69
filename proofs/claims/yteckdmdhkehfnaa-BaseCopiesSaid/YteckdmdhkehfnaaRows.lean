/-
  No cell of these rows narrows 'for every input' (looked for: loops, veiled, ifaces, maps, wideKeys, modest, calm, conditions, laid).
  DERIVED. THE GIVEN ROWS OF THIS SEAT. 5 by the template 'for every input the law returns true; each argument reads behind the call as it read before'; 0 by the template 'total and deterministic' (their statements: YteckdmdhkehfnaaTotals.lean).
  GIVEN WITH THE SEED: the statements are not yours to turn. If you find one false, say at which input.
  Laid BY PROGRAM, IN A SANDBOX (cutbox-rows.mjs): the forced cells as the released guide's own fill.sh prints them over the translation 41e63a41d9baa4e0… (all of the seat's roots in one cut). By AI agents, Wed Nov 11 2026. No macro, syntax, notation, axiom, sorry.
-/
import Derived.Test.YteckdmdhkehfnaaChecked
import GoSem.Claim
import GoSem.ClaimJoined
import GoSem.ClaimMapViews
import Derived.JoinedTies
import Derived.KernelRfl
namespace Go.Proofs.Yteckdmdhkehfnaa
/- THE CELL 'sum', in the pinned program and in every row, IS THE sha256 OF THE DUMP (.gsa) THAT YteckdmdhkehfnaaProg.lean LOADS. Nothing in Lean hashes anything: it is a label: what it is worth is what the hold of that sum in a sandbox is worth. -/
noncomputable def Try.pinned : Pinned := { name := "yteckdmdhkehfnaa", sum := "41e63a41d9baa4e01fc648998efb0d66ae0721fb881f1675db4ccfd0dc588b50", checked := Try.checked }
namespace Rows
def none {H : Type} : Left H := { results := [], args := [] }

/-- 'cardgamelaw28.BasePrints': WHATEVER THE INPUT: true; the input reads as it did. -/
def basePrintsSpec : ChangeSpec := { name := "basePrints", fn := fun _ => fun
  | [d] => { results := [.lit (.bool true)], args := [d] }
  | _ => none }
def basePrintsRow : OpenClaim := { program := "yteckdmdhkehfnaa", sum := "41e63a41d9baa4e01fc648998efb0d66ae0721fb881f1675db4ccfd0dc588b50", func := "cardgame/cardgamelaw28.BasePrints", spec := "basePrints", unfollowed := true, recurses := true, apart := false }
def BasePrintsSaid : Prop := basePrintsRow.holds Try.pinned (OpenSpec.ofChange basePrintsSpec)

/-- ITS FALSE NEIGHBOUR: 'it returns false'. Refute it at one input. -/
def basePrintsWrong : ChangeSpec := { name := "basePrints", fn := fun _ => fun
  | [d] => { results := [.lit (.bool false)], args := [d] }
  | _ => none }
def BasePrintsWrongFalsely : Prop := basePrintsRow.holds Try.pinned (OpenSpec.ofChange basePrintsWrong)

/-- 'cardgamelaw28.BaseReads': WHATEVER THE INPUT: true; the input reads as it did. -/
def baseReadsSpec : ChangeSpec := { name := "baseReads", fn := fun _ => fun
  | [d1, d2] => { results := [.lit (.bool true)], args := [d1, d2] }
  | _ => none }
def baseReadsRow : OpenClaim := { program := "yteckdmdhkehfnaa", sum := "41e63a41d9baa4e01fc648998efb0d66ae0721fb881f1675db4ccfd0dc588b50", func := "cardgame/cardgamelaw28.BaseReads", spec := "baseReads", unfollowed := true, recurses := true, apart := false }
def BaseReadsSaid : Prop := baseReadsRow.holds Try.pinned (OpenSpec.ofChange baseReadsSpec)

/-- ITS FALSE NEIGHBOUR: 'it returns false'. Refute it at one input. -/
def baseReadsWrong : ChangeSpec := { name := "baseReads", fn := fun _ => fun
  | [d1, d2] => { results := [.lit (.bool false)], args := [d1, d2] }
  | _ => none }
def BaseReadsWrongFalsely : Prop := baseReadsRow.holds Try.pinned (OpenSpec.ofChange baseReadsWrong)

/-- 'cardgamelaw28.BaseSames': WHATEVER THE INPUT: true; the input reads as it did. -/
def baseSamesSpec : ChangeSpec := { name := "baseSames", fn := fun _ => fun
  | [d1, d2] => { results := [.lit (.bool true)], args := [d1, d2] }
  | _ => none }
def baseSamesRow : OpenClaim := { program := "yteckdmdhkehfnaa", sum := "41e63a41d9baa4e01fc648998efb0d66ae0721fb881f1675db4ccfd0dc588b50", func := "cardgame/cardgamelaw28.BaseSames", spec := "baseSames", unfollowed := true, recurses := true, apart := false }
def BaseSamesSaid : Prop := baseSamesRow.holds Try.pinned (OpenSpec.ofChange baseSamesSpec)

/-- ITS FALSE NEIGHBOUR: 'it returns false'. Refute it at one input. -/
def baseSamesWrong : ChangeSpec := { name := "baseSames", fn := fun _ => fun
  | [d1, d2] => { results := [.lit (.bool false)], args := [d1, d2] }
  | _ => none }
def BaseSamesWrongFalsely : Prop := baseSamesRow.holds Try.pinned (OpenSpec.ofChange baseSamesWrong)

/-- 'cardgamelaw28.BaseCopies': WHATEVER THE INPUT: true; the input reads as it did. -/
def baseCopiesSpec : ChangeSpec := { name := "baseCopies", fn := fun _ => fun
  | [d1, d2] => { results := [.lit (.bool true)], args := [d1, d2] }
  | _ => none }
def baseCopiesRow : OpenClaim := { program := "yteckdmdhkehfnaa", sum := "41e63a41d9baa4e01fc648998efb0d66ae0721fb881f1675db4ccfd0dc588b50", func := "cardgame/cardgamelaw28.BaseCopies", spec := "baseCopies", unfollowed := true, recurses := true, apart := false }
def BaseCopiesSaid : Prop := baseCopiesRow.holds Try.pinned (OpenSpec.ofChange baseCopiesSpec)

/-- ITS FALSE NEIGHBOUR: 'it returns false'. Refute it at one input. -/
def baseCopiesWrong : ChangeSpec := { name := "baseCopies", fn := fun _ => fun
  | [d1, d2] => { results := [.lit (.bool false)], args := [d1, d2] }
  | _ => none }
def BaseCopiesWrongFalsely : Prop := baseCopiesRow.holds Try.pinned (OpenSpec.ofChange baseCopiesWrong)

/-- 'cardgamelaw28.BaseApart': WHATEVER THE INPUT: true; the input reads as it did. -/
def baseApartSpec : ChangeSpec := { name := "baseApart", fn := fun _ => fun
  | [d1, d2] => { results := [.lit (.bool true)], args := [d1, d2] }
  | _ => none }
def baseApartRow : OpenClaim := { program := "yteckdmdhkehfnaa", sum := "41e63a41d9baa4e01fc648998efb0d66ae0721fb881f1675db4ccfd0dc588b50", func := "cardgame/cardgamelaw28.BaseApart", spec := "baseApart", unfollowed := true, recurses := true, apart := false }
def BaseApartSaid : Prop := baseApartRow.holds Try.pinned (OpenSpec.ofChange baseApartSpec)

/-- ITS FALSE NEIGHBOUR: 'it returns false'. Refute it at one input. -/
def baseApartWrong : ChangeSpec := { name := "baseApart", fn := fun _ => fun
  | [d1, d2] => { results := [.lit (.bool false)], args := [d1, d2] }
  | _ => none }
def BaseApartWrongFalsely : Prop := baseApartRow.holds Try.pinned (OpenSpec.ofChange baseApartWrong)

/- THE SECOND FORM. 'bulk': how many values and letters a reading holds, each counted each time it is reached (what is shared counts as often as it is met; a slice's spare places count too). A statement '..UptoSaid' is the law's where the arguments, and the package variables that the reading takes, are together of bulk at most 1048576: NARROWER than '..Said'. Prove '..Said' where nothing that the law and all that it calls make is longer than what came in: it says more and counts as full. Else prove '..UptoSaid'. A law counts once. -/
mutual
def uptoBulk {H : Type} : DataW H → Nat
  | .lit (.string bytes) => bytes.length + 1
  | .lit _ => 1
  | .nil => 1
  | .ptr d => uptoBulk d + 1
  | .slice elems spare => uptoBulkAll elems + uptoBulkAll spare + 1
  | .agg parts => uptoBulkAll parts + 1
  | .iface _ d => uptoBulk d + 1
  | .map entries => uptoBulkEntries entries + 1
  | .held _ => 1
def uptoBulkAll {H : Type} : List (DataW H) → Nat
  | [] => 0
  | d :: r => uptoBulk d + uptoBulkAll r
def uptoBulkEntries {H : Type} : List (Lit × DataW H) → Nat
  | [] => 0
  | x :: r => uptoBulkEntry x + uptoBulkEntries r
def uptoBulkEntry {H : Type} : Lit × DataW H → Nat
  | (.string bytes, d) => bytes.length + uptoBulk d + 1
  | (_, d) => uptoBulk d + 1
 end
def uptoSmall : (H : Type) → List (DataW H) → Bool := fun _ ds => decide (uptoBulkAll ds ≤ 1048576)
def OpenSpec.upto (s : _root_.Go.ChangeSpec) : _root_.Go.OpenSpec := { _root_.Go.OpenSpec.ofChange s with cond := some uptoSmall }

/-- 'cardgamelaw28.BasePrints', WHERE WHAT IT READS IS OF BULK AT MOST 1048576: true; the input reads as it did. -/
def basePrintsUptoRow : OpenClaim := { program := "yteckdmdhkehfnaa", sum := "41e63a41d9baa4e01fc648998efb0d66ae0721fb881f1675db4ccfd0dc588b50", func := "cardgame/cardgamelaw28.BasePrints", spec := "basePrints", unfollowed := true, recurses := true, apart := false, narrowed := true }
def BasePrintsUptoSaid : Prop := basePrintsUptoRow.holds Try.pinned (OpenSpec.upto basePrintsSpec)

/-- 'cardgamelaw28.BaseReads', WHERE WHAT IT READS IS OF BULK AT MOST 1048576: true; the input reads as it did. -/
def baseReadsUptoRow : OpenClaim := { program := "yteckdmdhkehfnaa", sum := "41e63a41d9baa4e01fc648998efb0d66ae0721fb881f1675db4ccfd0dc588b50", func := "cardgame/cardgamelaw28.BaseReads", spec := "baseReads", unfollowed := true, recurses := true, apart := false, narrowed := true }
def BaseReadsUptoSaid : Prop := baseReadsUptoRow.holds Try.pinned (OpenSpec.upto baseReadsSpec)

/-- 'cardgamelaw28.BaseSames', WHERE WHAT IT READS IS OF BULK AT MOST 1048576: true; the input reads as it did. -/
def baseSamesUptoRow : OpenClaim := { program := "yteckdmdhkehfnaa", sum := "41e63a41d9baa4e01fc648998efb0d66ae0721fb881f1675db4ccfd0dc588b50", func := "cardgame/cardgamelaw28.BaseSames", spec := "baseSames", unfollowed := true, recurses := true, apart := false, narrowed := true }
def BaseSamesUptoSaid : Prop := baseSamesUptoRow.holds Try.pinned (OpenSpec.upto baseSamesSpec)

/-- 'cardgamelaw28.BaseCopies', WHERE WHAT IT READS IS OF BULK AT MOST 1048576: true; the input reads as it did. -/
def baseCopiesUptoRow : OpenClaim := { program := "yteckdmdhkehfnaa", sum := "41e63a41d9baa4e01fc648998efb0d66ae0721fb881f1675db4ccfd0dc588b50", func := "cardgame/cardgamelaw28.BaseCopies", spec := "baseCopies", unfollowed := true, recurses := true, apart := false, narrowed := true }
def BaseCopiesUptoSaid : Prop := baseCopiesUptoRow.holds Try.pinned (OpenSpec.upto baseCopiesSpec)

/-- 'cardgamelaw28.BaseApart', WHERE WHAT IT READS IS OF BULK AT MOST 1048576: true; the input reads as it did. -/
def baseApartUptoRow : OpenClaim := { program := "yteckdmdhkehfnaa", sum := "41e63a41d9baa4e01fc648998efb0d66ae0721fb881f1675db4ccfd0dc588b50", func := "cardgame/cardgamelaw28.BaseApart", spec := "baseApart", unfollowed := true, recurses := true, apart := false, narrowed := true }
def BaseApartUptoSaid : Prop := baseApartUptoRow.holds Try.pinned (OpenSpec.upto baseApartSpec)

end Rows
end Go.Proofs.Yteckdmdhkehfnaa
