/-
  NARROWER THAN 'FOR EVERY INPUT', by the rows' own cells (each row's printed sentence says how): ValueAmounts: laid · ValuePlayers: laid · ValueObjects: laid · ValueBounds: laid · ValueCounts: laid · ValueEveryone: laid.
  DERIVED. THE GIVEN ROWS OF THIS SEAT. 6 by the template 'for every input the law returns true; each argument reads behind the call as it read before'; 0 by the template 'total and deterministic' (their statements: YtnoofnejcoadfaaGreatDoorTotals.lean).
  GIVEN WITH THE SEED: the statements are not yours to turn. If you find one false, say at which input.
  Laid BY PROGRAM, IN A SANDBOX (cutbox-rows.mjs): the forced cells as the released guide's own fill.sh prints them over the translation 6ddf59a39de14734… (all of the seat's roots in one cut). By AI agents, Wed Nov 11 2026. No macro, syntax, notation, axiom, sorry.
-/
import Derived.Test.YtnoofnejcoadfaaGreatDoorChecked
import GoSem.Claim
import GoSem.ClaimJoined
import GoSem.ClaimMapViews
import Derived.JoinedTies
import Derived.KernelRfl
namespace Go.Proofs.YtnoofnejcoadfaaGreatDoor
/- THE CELL 'sum', in the pinned program and in every row, IS THE sha256 OF THE DUMP (.gsa) THAT YtnoofnejcoadfaaGreatDoorProg.lean LOADS. Nothing in Lean hashes anything: it is a label: what it is worth is what the hold of that sum in a sandbox is worth. -/
noncomputable def Tryz.pinned : Pinned := { name := "ytnoofnejcoadfaagreatdoor", sum := "6ddf59a39de1473454b11319ba8eba9f82815bdaee8b1f8921d469619f4625cc", checked := Tryz.checked }
namespace Rows
def none {H : Type} : Left H := { results := [], args := [] }

/- WHAT THE LISTED PACKAGE-LEVEL VARIABLES READ AS WHEN THE CALL BEGINS. Each datum BY PROGRAM (the guide's laid-datum.mjs) off the statement by which the dump's own 'gosem.cut.vars' lays the variable. In a bare row this is a premise. The card (YtnoofnejcoadfaaGreatDoorCards.lean) ties it to the program's text. -/
def laid_cardgame_counter_names {H : Type} : DataW H := .agg [.lit (.string [112, 108, 117, 115]), .lit (.string [109, 105, 110, 117, 115]), .lit (.string [99, 104, 97, 114, 103, 101])]

/-- 'cardgamelaw31.ValueAmounts': WHATEVER THE INPUT: true; the input reads as it did. -/
def valueAmountsSpec : ChangeSpec := { name := "valueAmounts", fn := fun _ => fun
  | [d1, d2, d3] => { results := [.lit (.bool true)], args := [d1, d2, d3] }
  | _ => none }
def valueAmountsRow : OpenClaim := { program := "ytnoofnejcoadfaagreatdoor", sum := "6ddf59a39de1473454b11319ba8eba9f82815bdaee8b1f8921d469619f4625cc", func := "cardgame/cardgamelaw31.ValueAmounts", spec := "valueAmounts", inPlace := ["internal/bytealg.IndexByteString", "internal/bytealg.IndexString"], unfollowed := true, recurses := true, named := ["internal/bytealg.MaxLen", "cardgame/counter.names"], apart := false, laid := [("cardgame/counter.names", laid_cardgame_counter_names)] }
def ValueAmountsSaid : Prop := valueAmountsRow.holds Tryz.pinned (OpenSpec.ofChange valueAmountsSpec)

/-- ITS FALSE NEIGHBOUR: 'it returns false'. Refute it at one input. -/
def valueAmountsWrong : ChangeSpec := { name := "valueAmounts", fn := fun _ => fun
  | [d1, d2, d3] => { results := [.lit (.bool false)], args := [d1, d2, d3] }
  | _ => none }
def ValueAmountsWrongFalsely : Prop := valueAmountsRow.holds Tryz.pinned (OpenSpec.ofChange valueAmountsWrong)

/-- 'cardgamelaw31.ValuePlayers': WHATEVER THE INPUT: true; the input reads as it did. -/
def valuePlayersSpec : ChangeSpec := { name := "valuePlayers", fn := fun _ => fun
  | [d1, d2, d3] => { results := [.lit (.bool true)], args := [d1, d2, d3] }
  | _ => none }
def valuePlayersRow : OpenClaim := { program := "ytnoofnejcoadfaagreatdoor", sum := "6ddf59a39de1473454b11319ba8eba9f82815bdaee8b1f8921d469619f4625cc", func := "cardgame/cardgamelaw31.ValuePlayers", spec := "valuePlayers", inPlace := ["internal/bytealg.IndexByteString", "internal/bytealg.IndexString"], unfollowed := true, recurses := true, named := ["internal/bytealg.MaxLen", "cardgame/counter.names"], apart := false, laid := [("cardgame/counter.names", laid_cardgame_counter_names)] }
def ValuePlayersSaid : Prop := valuePlayersRow.holds Tryz.pinned (OpenSpec.ofChange valuePlayersSpec)

/-- ITS FALSE NEIGHBOUR: 'it returns false'. Refute it at one input. -/
def valuePlayersWrong : ChangeSpec := { name := "valuePlayers", fn := fun _ => fun
  | [d1, d2, d3] => { results := [.lit (.bool false)], args := [d1, d2, d3] }
  | _ => none }
def ValuePlayersWrongFalsely : Prop := valuePlayersRow.holds Tryz.pinned (OpenSpec.ofChange valuePlayersWrong)

/-- 'cardgamelaw31.ValueObjects': WHATEVER THE INPUT: true; the input reads as it did. -/
def valueObjectsSpec : ChangeSpec := { name := "valueObjects", fn := fun _ => fun
  | [d1, d2, d3] => { results := [.lit (.bool true)], args := [d1, d2, d3] }
  | _ => none }
def valueObjectsRow : OpenClaim := { program := "ytnoofnejcoadfaagreatdoor", sum := "6ddf59a39de1473454b11319ba8eba9f82815bdaee8b1f8921d469619f4625cc", func := "cardgame/cardgamelaw31.ValueObjects", spec := "valueObjects", inPlace := ["internal/bytealg.IndexByteString", "internal/bytealg.IndexString"], unfollowed := true, recurses := true, named := ["internal/bytealg.MaxLen", "cardgame/counter.names"], apart := false, laid := [("cardgame/counter.names", laid_cardgame_counter_names)] }
def ValueObjectsSaid : Prop := valueObjectsRow.holds Tryz.pinned (OpenSpec.ofChange valueObjectsSpec)

/-- ITS FALSE NEIGHBOUR: 'it returns false'. Refute it at one input. -/
def valueObjectsWrong : ChangeSpec := { name := "valueObjects", fn := fun _ => fun
  | [d1, d2, d3] => { results := [.lit (.bool false)], args := [d1, d2, d3] }
  | _ => none }
def ValueObjectsWrongFalsely : Prop := valueObjectsRow.holds Tryz.pinned (OpenSpec.ofChange valueObjectsWrong)

/-- 'cardgamelaw31.ValueBounds': WHATEVER THE INPUT: true; the input reads as it did. -/
def valueBoundsSpec : ChangeSpec := { name := "valueBounds", fn := fun _ => fun
  | [d1, d2, d3] => { results := [.lit (.bool true)], args := [d1, d2, d3] }
  | _ => none }
def valueBoundsRow : OpenClaim := { program := "ytnoofnejcoadfaagreatdoor", sum := "6ddf59a39de1473454b11319ba8eba9f82815bdaee8b1f8921d469619f4625cc", func := "cardgame/cardgamelaw31.ValueBounds", spec := "valueBounds", inPlace := ["internal/bytealg.IndexByteString", "internal/bytealg.IndexString"], unfollowed := true, recurses := true, named := ["internal/bytealg.MaxLen", "cardgame/counter.names"], apart := false, laid := [("cardgame/counter.names", laid_cardgame_counter_names)] }
def ValueBoundsSaid : Prop := valueBoundsRow.holds Tryz.pinned (OpenSpec.ofChange valueBoundsSpec)

/-- ITS FALSE NEIGHBOUR: 'it returns false'. Refute it at one input. -/
def valueBoundsWrong : ChangeSpec := { name := "valueBounds", fn := fun _ => fun
  | [d1, d2, d3] => { results := [.lit (.bool false)], args := [d1, d2, d3] }
  | _ => none }
def ValueBoundsWrongFalsely : Prop := valueBoundsRow.holds Tryz.pinned (OpenSpec.ofChange valueBoundsWrong)

/-- 'cardgamelaw31.ValueCounts': WHATEVER THE INPUT: true; the input reads as it did. -/
def valueCountsSpec : ChangeSpec := { name := "valueCounts", fn := fun _ => fun
  | [d1, d2, d3] => { results := [.lit (.bool true)], args := [d1, d2, d3] }
  | _ => none }
def valueCountsRow : OpenClaim := { program := "ytnoofnejcoadfaagreatdoor", sum := "6ddf59a39de1473454b11319ba8eba9f82815bdaee8b1f8921d469619f4625cc", func := "cardgame/cardgamelaw31.ValueCounts", spec := "valueCounts", inPlace := ["internal/bytealg.IndexByteString", "internal/bytealg.IndexString"], unfollowed := true, recurses := true, named := ["internal/bytealg.MaxLen", "cardgame/counter.names"], apart := false, laid := [("cardgame/counter.names", laid_cardgame_counter_names)] }
def ValueCountsSaid : Prop := valueCountsRow.holds Tryz.pinned (OpenSpec.ofChange valueCountsSpec)

/-- ITS FALSE NEIGHBOUR: 'it returns false'. Refute it at one input. -/
def valueCountsWrong : ChangeSpec := { name := "valueCounts", fn := fun _ => fun
  | [d1, d2, d3] => { results := [.lit (.bool false)], args := [d1, d2, d3] }
  | _ => none }
def ValueCountsWrongFalsely : Prop := valueCountsRow.holds Tryz.pinned (OpenSpec.ofChange valueCountsWrong)

/-- 'cardgamelaw31.ValueEveryone': WHATEVER THE INPUT: true; the input reads as it did. -/
def valueEveryoneSpec : ChangeSpec := { name := "valueEveryone", fn := fun _ => fun
  | [d1, d2, d3] => { results := [.lit (.bool true)], args := [d1, d2, d3] }
  | _ => none }
def valueEveryoneRow : OpenClaim := { program := "ytnoofnejcoadfaagreatdoor", sum := "6ddf59a39de1473454b11319ba8eba9f82815bdaee8b1f8921d469619f4625cc", func := "cardgame/cardgamelaw31.ValueEveryone", spec := "valueEveryone", inPlace := ["internal/bytealg.IndexByteString", "internal/bytealg.IndexString"], unfollowed := true, recurses := true, named := ["internal/bytealg.MaxLen", "cardgame/counter.names"], apart := false, laid := [("cardgame/counter.names", laid_cardgame_counter_names)] }
def ValueEveryoneSaid : Prop := valueEveryoneRow.holds Tryz.pinned (OpenSpec.ofChange valueEveryoneSpec)

/-- ITS FALSE NEIGHBOUR: 'it returns false'. Refute it at one input. -/
def valueEveryoneWrong : ChangeSpec := { name := "valueEveryone", fn := fun _ => fun
  | [d1, d2, d3] => { results := [.lit (.bool false)], args := [d1, d2, d3] }
  | _ => none }
def ValueEveryoneWrongFalsely : Prop := valueEveryoneRow.holds Tryz.pinned (OpenSpec.ofChange valueEveryoneWrong)

/- THE SECOND FORM. 'bulk': how many values and letters a reading holds, each counted each time it is reached (what is shared counts as often as it is met; a slice's spare places count too). A statement '..UptoSaid' is the law's where the arguments, and the package variables that the reading takes, are together of bulk at most 1048576: NARROWER than '..Said'. Prove '..Said' where nothing that the law and all that it calls make is longer than what came in: it says more and counts as full. Else prove '..UptoSaid'. A law counts once. -/
mutual
def uptoBulk {H : Type} : DataW H → Nat
  | .lit (.string bytes) => bytes.length + 1
  | .lit _ => 1
  | .nil => 1
  | .ptr d => uptoBulk d + 1
  | .slice elems spare => uptoBulkAll elems + uptoBulkAll spare + 1
  | .agg parts => uptoBulkAll parts + 1
  | .iface _ d => uptoBulk d + 1
  | .map entries => uptoBulkEntries entries + 1
  | .held _ => 1
def uptoBulkAll {H : Type} : List (DataW H) → Nat
  | [] => 0
  | d :: r => uptoBulk d + uptoBulkAll r
def uptoBulkEntries {H : Type} : List (Lit × DataW H) → Nat
  | [] => 0
  | x :: r => uptoBulkEntry x + uptoBulkEntries r
def uptoBulkEntry {H : Type} : Lit × DataW H → Nat
  | (.string bytes, d) => bytes.length + uptoBulk d + 1
  | (_, d) => uptoBulk d + 1
 end
def uptoSmall : (H : Type) → List (DataW H) → Bool := fun _ ds => decide (uptoBulkAll ds ≤ 1048576)
def OpenSpec.upto (s : _root_.Go.ChangeSpec) : _root_.Go.OpenSpec := { _root_.Go.OpenSpec.ofChange s with cond := some uptoSmall }

/-- 'cardgamelaw31.ValueAmounts', WHERE WHAT IT READS IS OF BULK AT MOST 1048576: true; the input reads as it did. -/
def valueAmountsUptoRow : OpenClaim := { program := "ytnoofnejcoadfaagreatdoor", sum := "6ddf59a39de1473454b11319ba8eba9f82815bdaee8b1f8921d469619f4625cc", func := "cardgame/cardgamelaw31.ValueAmounts", spec := "valueAmounts", inPlace := ["internal/bytealg.IndexByteString", "internal/bytealg.IndexString"], unfollowed := true, recurses := true, named := ["internal/bytealg.MaxLen", "cardgame/counter.names"], apart := false, laid := [("cardgame/counter.names", laid_cardgame_counter_names)], narrowed := true }
def ValueAmountsUptoSaid : Prop := valueAmountsUptoRow.holds Tryz.pinned (OpenSpec.upto valueAmountsSpec)

/-- 'cardgamelaw31.ValuePlayers', WHERE WHAT IT READS IS OF BULK AT MOST 1048576: true; the input reads as it did. -/
def valuePlayersUptoRow : OpenClaim := { program := "ytnoofnejcoadfaagreatdoor", sum := "6ddf59a39de1473454b11319ba8eba9f82815bdaee8b1f8921d469619f4625cc", func := "cardgame/cardgamelaw31.ValuePlayers", spec := "valuePlayers", inPlace := ["internal/bytealg.IndexByteString", "internal/bytealg.IndexString"], unfollowed := true, recurses := true, named := ["internal/bytealg.MaxLen", "cardgame/counter.names"], apart := false, laid := [("cardgame/counter.names", laid_cardgame_counter_names)], narrowed := true }
def ValuePlayersUptoSaid : Prop := valuePlayersUptoRow.holds Tryz.pinned (OpenSpec.upto valuePlayersSpec)

/-- 'cardgamelaw31.ValueObjects', WHERE WHAT IT READS IS OF BULK AT MOST 1048576: true; the input reads as it did. -/
def valueObjectsUptoRow : OpenClaim := { program := "ytnoofnejcoadfaagreatdoor", sum := "6ddf59a39de1473454b11319ba8eba9f82815bdaee8b1f8921d469619f4625cc", func := "cardgame/cardgamelaw31.ValueObjects", spec := "valueObjects", inPlace := ["internal/bytealg.IndexByteString", "internal/bytealg.IndexString"], unfollowed := true, recurses := true, named := ["internal/bytealg.MaxLen", "cardgame/counter.names"], apart := false, laid := [("cardgame/counter.names", laid_cardgame_counter_names)], narrowed := true }
def ValueObjectsUptoSaid : Prop := valueObjectsUptoRow.holds Tryz.pinned (OpenSpec.upto valueObjectsSpec)

/-- 'cardgamelaw31.ValueBounds', WHERE WHAT IT READS IS OF BULK AT MOST 1048576: true; the input reads as it did. -/
def valueBoundsUptoRow : OpenClaim := { program := "ytnoofnejcoadfaagreatdoor", sum := "6ddf59a39de1473454b11319ba8eba9f82815bdaee8b1f8921d469619f4625cc", func := "cardgame/cardgamelaw31.ValueBounds", spec := "valueBounds", inPlace := ["internal/bytealg.IndexByteString", "internal/bytealg.IndexString"], unfollowed := true, recurses := true, named := ["internal/bytealg.MaxLen", "cardgame/counter.names"], apart := false, laid := [("cardgame/counter.names", laid_cardgame_counter_names)], narrowed := true }
def ValueBoundsUptoSaid : Prop := valueBoundsUptoRow.holds Tryz.pinned (OpenSpec.upto valueBoundsSpec)

/-- 'cardgamelaw31.ValueCounts', WHERE WHAT IT READS IS OF BULK AT MOST 1048576: true; the input reads as it did. -/
def valueCountsUptoRow : OpenClaim := { program := "ytnoofnejcoadfaagreatdoor", sum := "6ddf59a39de1473454b11319ba8eba9f82815bdaee8b1f8921d469619f4625cc", func := "cardgame/cardgamelaw31.ValueCounts", spec := "valueCounts", inPlace := ["internal/bytealg.IndexByteString", "internal/bytealg.IndexString"], unfollowed := true, recurses := true, named := ["internal/bytealg.MaxLen", "cardgame/counter.names"], apart := false, laid := [("cardgame/counter.names", laid_cardgame_counter_names)], narrowed := true }
def ValueCountsUptoSaid : Prop := valueCountsUptoRow.holds Tryz.pinned (OpenSpec.upto valueCountsSpec)

/-- 'cardgamelaw31.ValueEveryone', WHERE WHAT IT READS IS OF BULK AT MOST 1048576: true; the input reads as it did. -/
def valueEveryoneUptoRow : OpenClaim := { program := "ytnoofnejcoadfaagreatdoor", sum := "6ddf59a39de1473454b11319ba8eba9f82815bdaee8b1f8921d469619f4625cc", func := "cardgame/cardgamelaw31.ValueEveryone", spec := "valueEveryone", inPlace := ["internal/bytealg.IndexByteString", "internal/bytealg.IndexString"], unfollowed := true, recurses := true, named := ["internal/bytealg.MaxLen", "cardgame/counter.names"], apart := false, laid := [("cardgame/counter.names", laid_cardgame_counter_names)], narrowed := true }
def ValueEveryoneUptoSaid : Prop := valueEveryoneUptoRow.holds Tryz.pinned (OpenSpec.upto valueEveryoneSpec)

end Rows
end Go.Proofs.YtnoofnejcoadfaaGreatDoor
