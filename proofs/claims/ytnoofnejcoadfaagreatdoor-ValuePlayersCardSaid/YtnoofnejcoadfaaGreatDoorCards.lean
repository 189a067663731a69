/-
  DERIVED. GIVEN WITH THE SEED: THE CARDS: each row of YtnoofnejcoadfaaGreatDoorRows.lean that lists a variable, with what it lists TIED to the program's text (the seventh form; the later family's looks); each row that meets fmt, with fmt's text TOLD by the authors' own Lean function (tested against real Go, not proved from fmt's source: count such statements apart). THE CARD IS WHAT COUNTS. Prove the row's statement (the work); the ties are given (YtnoofnejcoadfaaGreatDoorTie.lean); close each card by the builder's one call (the guide's Derived/Test/ToyasCard.lean, 'card_holds'). Laid BY PROGRAM, IN A SANDBOX (cutbox-door.mjs). By AI agents, Wed Nov 11 2026. No macro, syntax, notation, axiom, sorry.
-/
import Derived.Test.YtnoofnejcoadfaaGreatDoorRows
import GoSem.ClaimSeven
namespace Go.Proofs.YtnoofnejcoadfaaGreatDoor
namespace Rows

/-- THE TIED CARD OF 'cardgamelaw31.ValueAmounts'. -/
def valueAmountsCard : Claim7 := { stood := { row := valueAmountsRow, standIns := [], harness := (true, "10c2d0e67542d80448181e48baba62012d55b5d8c47a007a83022e3fe277eda9"), looks := false }, kinds := [], alts := [], laidByText := true, laidKinds := [.widerDeep], laidTests := true, laidLooks := .later }
def ValueAmountsCardSaid : Prop := Claim7.holds Tryz.pinned (.plain (OpenSpec.ofChange valueAmountsSpec)) valueAmountsCard

/-- THE TIED CARD OF 'cardgamelaw31.ValuePlayers'. -/
def valuePlayersCard : Claim7 := { stood := { row := valuePlayersRow, standIns := [], harness := (true, "10c2d0e67542d80448181e48baba62012d55b5d8c47a007a83022e3fe277eda9"), looks := false }, kinds := [], alts := [], laidByText := true, laidKinds := [.widerDeep], laidTests := true, laidLooks := .later }
def ValuePlayersCardSaid : Prop := Claim7.holds Tryz.pinned (.plain (OpenSpec.ofChange valuePlayersSpec)) valuePlayersCard

/-- THE TIED CARD OF 'cardgamelaw31.ValueObjects'. -/
def valueObjectsCard : Claim7 := { stood := { row := valueObjectsRow, standIns := [], harness := (true, "10c2d0e67542d80448181e48baba62012d55b5d8c47a007a83022e3fe277eda9"), looks := false }, kinds := [], alts := [], laidByText := true, laidKinds := [.widerDeep], laidTests := true, laidLooks := .later }
def ValueObjectsCardSaid : Prop := Claim7.holds Tryz.pinned (.plain (OpenSpec.ofChange valueObjectsSpec)) valueObjectsCard

/-- THE TIED CARD OF 'cardgamelaw31.ValueBounds'. -/
def valueBoundsCard : Claim7 := { stood := { row := valueBoundsRow, standIns := [], harness := (true, "10c2d0e67542d80448181e48baba62012d55b5d8c47a007a83022e3fe277eda9"), looks := false }, kinds := [], alts := [], laidByText := true, laidKinds := [.widerDeep], laidTests := true, laidLooks := .later }
def ValueBoundsCardSaid : Prop := Claim7.holds Tryz.pinned (.plain (OpenSpec.ofChange valueBoundsSpec)) valueBoundsCard

/-- THE TIED CARD OF 'cardgamelaw31.ValueCounts'. -/
def valueCountsCard : Claim7 := { stood := { row := valueCountsRow, standIns := [], harness := (true, "10c2d0e67542d80448181e48baba62012d55b5d8c47a007a83022e3fe277eda9"), looks := false }, kinds := [], alts := [], laidByText := true, laidKinds := [.widerDeep], laidTests := true, laidLooks := .later }
def ValueCountsCardSaid : Prop := Claim7.holds Tryz.pinned (.plain (OpenSpec.ofChange valueCountsSpec)) valueCountsCard

/-- THE TIED CARD OF 'cardgamelaw31.ValueEveryone'. -/
def valueEveryoneCard : Claim7 := { stood := { row := valueEveryoneRow, standIns := [], harness := (true, "10c2d0e67542d80448181e48baba62012d55b5d8c47a007a83022e3fe277eda9"), looks := false }, kinds := [], alts := [], laidByText := true, laidKinds := [.widerDeep], laidTests := true, laidLooks := .later }
def ValueEveryoneCardSaid : Prop := Claim7.holds Tryz.pinned (.plain (OpenSpec.ofChange valueEveryoneSpec)) valueEveryoneCard

/-- THE SECOND FORM's CARD OF 'cardgamelaw31.ValueAmounts'. -/
def valueAmountsUptoCard : Claim7 := { stood := { row := valueAmountsUptoRow, standIns := [], harness := (true, "10c2d0e67542d80448181e48baba62012d55b5d8c47a007a83022e3fe277eda9"), looks := false }, kinds := [], alts := [], laidByText := true, laidKinds := [.widerDeep], laidTests := true, laidLooks := .later }
def ValueAmountsUptoCardSaid : Prop := Claim7.holds Tryz.pinned (.plain (OpenSpec.upto valueAmountsSpec)) valueAmountsUptoCard

/-- THE SECOND FORM's CARD OF 'cardgamelaw31.ValuePlayers'. -/
def valuePlayersUptoCard : Claim7 := { stood := { row := valuePlayersUptoRow, standIns := [], harness := (true, "10c2d0e67542d80448181e48baba62012d55b5d8c47a007a83022e3fe277eda9"), looks := false }, kinds := [], alts := [], laidByText := true, laidKinds := [.widerDeep], laidTests := true, laidLooks := .later }
def ValuePlayersUptoCardSaid : Prop := Claim7.holds Tryz.pinned (.plain (OpenSpec.upto valuePlayersSpec)) valuePlayersUptoCard

/-- THE SECOND FORM's CARD OF 'cardgamelaw31.ValueObjects'. -/
def valueObjectsUptoCard : Claim7 := { stood := { row := valueObjectsUptoRow, standIns := [], harness := (true, "10c2d0e67542d80448181e48baba62012d55b5d8c47a007a83022e3fe277eda9"), looks := false }, kinds := [], alts := [], laidByText := true, laidKinds := [.widerDeep], laidTests := true, laidLooks := .later }
def ValueObjectsUptoCardSaid : Prop := Claim7.holds Tryz.pinned (.plain (OpenSpec.upto valueObjectsSpec)) valueObjectsUptoCard

/-- THE SECOND FORM's CARD OF 'cardgamelaw31.ValueBounds'. -/
def valueBoundsUptoCard : Claim7 := { stood := { row := valueBoundsUptoRow, standIns := [], harness := (true, "10c2d0e67542d80448181e48baba62012d55b5d8c47a007a83022e3fe277eda9"), looks := false }, kinds := [], alts := [], laidByText := true, laidKinds := [.widerDeep], laidTests := true, laidLooks := .later }
def ValueBoundsUptoCardSaid : Prop := Claim7.holds Tryz.pinned (.plain (OpenSpec.upto valueBoundsSpec)) valueBoundsUptoCard

/-- THE SECOND FORM's CARD OF 'cardgamelaw31.ValueCounts'. -/
def valueCountsUptoCard : Claim7 := { stood := { row := valueCountsUptoRow, standIns := [], harness := (true, "10c2d0e67542d80448181e48baba62012d55b5d8c47a007a83022e3fe277eda9"), looks := false }, kinds := [], alts := [], laidByText := true, laidKinds := [.widerDeep], laidTests := true, laidLooks := .later }
def ValueCountsUptoCardSaid : Prop := Claim7.holds Tryz.pinned (.plain (OpenSpec.upto valueCountsSpec)) valueCountsUptoCard

/-- THE SECOND FORM's CARD OF 'cardgamelaw31.ValueEveryone'. -/
def valueEveryoneUptoCard : Claim7 := { stood := { row := valueEveryoneUptoRow, standIns := [], harness := (true, "10c2d0e67542d80448181e48baba62012d55b5d8c47a007a83022e3fe277eda9"), looks := false }, kinds := [], alts := [], laidByText := true, laidKinds := [.widerDeep], laidTests := true, laidLooks := .later }
def ValueEveryoneUptoCardSaid : Prop := Claim7.holds Tryz.pinned (.plain (OpenSpec.upto valueEveryoneSpec)) valueEveryoneUptoCard
end Rows
end Go.Proofs.YtnoofnejcoadfaaGreatDoor
