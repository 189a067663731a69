/-
  No cell of these rows narrows 'for every input' (looked for: loops, veiled, ifaces, maps, wideKeys, modest, calm, conditions, laid).
  DERIVED. THE GIVEN ROWS OF THIS SEAT. 5 by the template 'for every input the law returns true; each argument reads behind the call as it read before'; 0 by the template 'total and deterministic' (their statements: YtdpiijfehkafnaaTotals.lean).
  GIVEN WITH THE SEED: the statements are not yours to turn. If you find one false, say at which input.
  Laid BY PROGRAM, IN A SANDBOX (cutbox-rows.mjs): the forced cells as the released guide's own fill.sh prints them over the translation 97f2be844794d2da… (all of the seat's roots in one cut). By AI agents, Wed Nov 11 2026. No macro, syntax, notation, axiom, sorry.
-/
import Derived.Test.YtdpiijfehkafnaaChecked
import GoSem.Claim
import GoSem.ClaimJoined
import GoSem.ClaimMapViews
import Derived.JoinedTies
import Derived.KernelRfl
namespace Go.Proofs.Ytdpiijfehkafnaa
/- THE CELL 'sum', in the pinned program and in every row, IS THE sha256 OF THE DUMP (.gsa) THAT YtdpiijfehkafnaaProg.lean LOADS. Nothing in Lean hashes anything: it is a label: what it is worth is what the hold of that sum in a sandbox is worth. -/
noncomputable def Try.pinned : Pinned := { name := "ytdpiijfehkafnaa", sum := "97f2be844794d2daf470a7781ee34f44ecdd6a6a164ff728cebf958dba68c78b", checked := Try.checked }
namespace Rows
def none {H : Type} : Left H := { results := [], args := [] }

/-- 'cardgamelaw29.MatchObjects': WHATEVER THE INPUT: true; the input reads as it did. -/
def matchObjectsSpec : ChangeSpec := { name := "matchObjects", fn := fun _ => fun
  | [d1, d2] => { results := [.lit (.bool true)], args := [d1, d2] }
  | _ => none }
def matchObjectsRow : OpenClaim := { program := "ytdpiijfehkafnaa", sum := "97f2be844794d2daf470a7781ee34f44ecdd6a6a164ff728cebf958dba68c78b", func := "cardgame/cardgamelaw29.MatchObjects", spec := "matchObjects", inPlace := ["internal/bytealg.IndexByteString", "internal/bytealg.IndexString"], unfollowed := true, recurses := true, named := ["internal/bytealg.MaxLen"], apart := false }
def MatchObjectsSaid : Prop := matchObjectsRow.holds Try.pinned (OpenSpec.ofChange matchObjectsSpec)

/-- ITS FALSE NEIGHBOUR: 'it returns false'. Refute it at one input. -/
def matchObjectsWrong : ChangeSpec := { name := "matchObjects", fn := fun _ => fun
  | [d1, d2] => { results := [.lit (.bool false)], args := [d1, d2] }
  | _ => none }
def MatchObjectsWrongFalsely : Prop := matchObjectsRow.holds Try.pinned (OpenSpec.ofChange matchObjectsWrong)

/-- 'cardgamelaw29.MatchNarrower': WHATEVER THE INPUT: true; the input reads as it did. -/
def matchNarrowerSpec : ChangeSpec := { name := "matchNarrower", fn := fun _ => fun
  | [d1, d2, d3] => { results := [.lit (.bool true)], args := [d1, d2, d3] }
  | _ => none }
def matchNarrowerRow : OpenClaim := { program := "ytdpiijfehkafnaa", sum := "97f2be844794d2daf470a7781ee34f44ecdd6a6a164ff728cebf958dba68c78b", func := "cardgame/cardgamelaw29.MatchNarrower", spec := "matchNarrower", inPlace := ["internal/bytealg.IndexByteString", "internal/bytealg.IndexString"], unfollowed := true, recurses := true, named := ["internal/bytealg.MaxLen"], apart := false }
def MatchNarrowerSaid : Prop := matchNarrowerRow.holds Try.pinned (OpenSpec.ofChange matchNarrowerSpec)

/-- ITS FALSE NEIGHBOUR: 'it returns false'. Refute it at one input. -/
def matchNarrowerWrong : ChangeSpec := { name := "matchNarrower", fn := fun _ => fun
  | [d1, d2, d3] => { results := [.lit (.bool false)], args := [d1, d2, d3] }
  | _ => none }
def MatchNarrowerWrongFalsely : Prop := matchNarrowerRow.holds Try.pinned (OpenSpec.ofChange matchNarrowerWrong)

/-- 'cardgamelaw29.MatchInvalid': WHATEVER THE INPUT: true; the input reads as it did. -/
def matchInvalidSpec : ChangeSpec := { name := "matchInvalid", fn := fun _ => fun
  | [d1, d2] => { results := [.lit (.bool true)], args := [d1, d2] }
  | _ => none }
def matchInvalidRow : OpenClaim := { program := "ytdpiijfehkafnaa", sum := "97f2be844794d2daf470a7781ee34f44ecdd6a6a164ff728cebf958dba68c78b", func := "cardgame/cardgamelaw29.MatchInvalid", spec := "matchInvalid", inPlace := ["internal/bytealg.IndexByteString", "internal/bytealg.IndexString"], unfollowed := true, recurses := true, named := ["internal/bytealg.MaxLen"], apart := false }
def MatchInvalidSaid : Prop := matchInvalidRow.holds Try.pinned (OpenSpec.ofChange matchInvalidSpec)

/-- ITS FALSE NEIGHBOUR: 'it returns false'. Refute it at one input. -/
def matchInvalidWrong : ChangeSpec := { name := "matchInvalid", fn := fun _ => fun
  | [d1, d2] => { results := [.lit (.bool false)], args := [d1, d2] }
  | _ => none }
def MatchInvalidWrongFalsely : Prop := matchInvalidRow.holds Try.pinned (OpenSpec.ofChange matchInvalidWrong)

/-- 'cardgamelaw29.MatchPlayers': WHATEVER THE INPUT: true; the input reads as it did. -/
def matchPlayersSpec : ChangeSpec := { name := "matchPlayers", fn := fun _ => fun
  | [d1, d2, d3] => { results := [.lit (.bool true)], args := [d1, d2, d3] }
  | _ => none }
def matchPlayersRow : OpenClaim := { program := "ytdpiijfehkafnaa", sum := "97f2be844794d2daf470a7781ee34f44ecdd6a6a164ff728cebf958dba68c78b", func := "cardgame/cardgamelaw29.MatchPlayers", spec := "matchPlayers", inPlace := ["internal/bytealg.IndexByteString", "internal/bytealg.IndexString"], unfollowed := true, recurses := true, named := ["internal/bytealg.MaxLen"], apart := false }
def MatchPlayersSaid : Prop := matchPlayersRow.holds Try.pinned (OpenSpec.ofChange matchPlayersSpec)

/-- ITS FALSE NEIGHBOUR: 'it returns false'. Refute it at one input. -/
def matchPlayersWrong : ChangeSpec := { name := "matchPlayers", fn := fun _ => fun
  | [d1, d2, d3] => { results := [.lit (.bool false)], args := [d1, d2, d3] }
  | _ => none }
def MatchPlayersWrongFalsely : Prop := matchPlayersRow.holds Try.pinned (OpenSpec.ofChange matchPlayersWrong)

/-- 'cardgamelaw29.MatchLists': WHATEVER THE INPUT: true; the input reads as it did. -/
def matchListsSpec : ChangeSpec := { name := "matchLists", fn := fun _ => fun
  | [d] => { results := [.lit (.bool true)], args := [d] }
  | _ => none }
def matchListsRow : OpenClaim := { program := "ytdpiijfehkafnaa", sum := "97f2be844794d2daf470a7781ee34f44ecdd6a6a164ff728cebf958dba68c78b", func := "cardgame/cardgamelaw29.MatchLists", spec := "matchLists", inPlace := ["internal/bytealg.IndexByteString", "internal/bytealg.IndexString"], unfollowed := true, recurses := true, named := ["internal/bytealg.MaxLen"], apart := false }
def MatchListsSaid : Prop := matchListsRow.holds Try.pinned (OpenSpec.ofChange matchListsSpec)

/-- ITS FALSE NEIGHBOUR: 'it returns false'. Refute it at one input. -/
def matchListsWrong : ChangeSpec := { name := "matchLists", fn := fun _ => fun
  | [d] => { results := [.lit (.bool false)], args := [d] }
  | _ => none }
def MatchListsWrongFalsely : Prop := matchListsRow.holds Try.pinned (OpenSpec.ofChange matchListsWrong)

/- THE SECOND FORM. 'bulk': how many values and letters a reading holds, each counted each time it is reached (what is shared counts as often as it is met; a slice's spare places count too). A statement '..UptoSaid' is the law's where the arguments, and the package variables that the reading takes, are together of bulk at most 1048576: NARROWER than '..Said'. Prove '..Said' where nothing that the law and all that it calls make is longer than what came in: it says more and counts as full. Else prove '..UptoSaid'. A law counts once. -/
mutual
def uptoBulk {H : Type} : DataW H → Nat
  | .lit (.string bytes) => bytes.length + 1
  | .lit _ => 1
  | .nil => 1
  | .ptr d => uptoBulk d + 1
  | .slice elems spare => uptoBulkAll elems + uptoBulkAll spare + 1
  | .agg parts => uptoBulkAll parts + 1
  | .iface _ d => uptoBulk d + 1
  | .map entries => uptoBulkEntries entries + 1
  | .held _ => 1
def uptoBulkAll {H : Type} : List (DataW H) → Nat
  | [] => 0
  | d :: r => uptoBulk d + uptoBulkAll r
def uptoBulkEntries {H : Type} : List (Lit × DataW H) → Nat
  | [] => 0
  | x :: r => uptoBulkEntry x + uptoBulkEntries r
def uptoBulkEntry {H : Type} : Lit × DataW H → Nat
  | (.string bytes, d) => bytes.length + uptoBulk d + 1
  | (_, d) => uptoBulk d + 1
 end
def uptoSmall : (H : Type) → List (DataW H) → Bool := fun _ ds => decide (uptoBulkAll ds ≤ 1048576)
def OpenSpec.upto (s : _root_.Go.ChangeSpec) : _root_.Go.OpenSpec := { _root_.Go.OpenSpec.ofChange s with cond := some uptoSmall }

/-- 'cardgamelaw29.MatchObjects', WHERE WHAT IT READS IS OF BULK AT MOST 1048576: true; the input reads as it did. -/
def matchObjectsUptoRow : OpenClaim := { program := "ytdpiijfehkafnaa", sum := "97f2be844794d2daf470a7781ee34f44ecdd6a6a164ff728cebf958dba68c78b", func := "cardgame/cardgamelaw29.MatchObjects", spec := "matchObjects", inPlace := ["internal/bytealg.IndexByteString", "internal/bytealg.IndexString"], unfollowed := true, recurses := true, named := ["internal/bytealg.MaxLen"], apart := false, narrowed := true }
def MatchObjectsUptoSaid : Prop := matchObjectsUptoRow.holds Try.pinned (OpenSpec.upto matchObjectsSpec)

/-- 'cardgamelaw29.MatchNarrower', WHERE WHAT IT READS IS OF BULK AT MOST 1048576: true; the input reads as it did. -/
def matchNarrowerUptoRow : OpenClaim := { program := "ytdpiijfehkafnaa", sum := "97f2be844794d2daf470a7781ee34f44ecdd6a6a164ff728cebf958dba68c78b", func := "cardgame/cardgamelaw29.MatchNarrower", spec := "matchNarrower", inPlace := ["internal/bytealg.IndexByteString", "internal/bytealg.IndexString"], unfollowed := true, recurses := true, named := ["internal/bytealg.MaxLen"], apart := false, narrowed := true }
def MatchNarrowerUptoSaid : Prop := matchNarrowerUptoRow.holds Try.pinned (OpenSpec.upto matchNarrowerSpec)

/-- 'cardgamelaw29.MatchInvalid', WHERE WHAT IT READS IS OF BULK AT MOST 1048576: true; the input reads as it did. -/
def matchInvalidUptoRow : OpenClaim := { program := "ytdpiijfehkafnaa", sum := "97f2be844794d2daf470a7781ee34f44ecdd6a6a164ff728cebf958dba68c78b", func := "cardgame/cardgamelaw29.MatchInvalid", spec := "matchInvalid", inPlace := ["internal/bytealg.IndexByteString", "internal/bytealg.IndexString"], unfollowed := true, recurses := true, named := ["internal/bytealg.MaxLen"], apart := false, narrowed := true }
def MatchInvalidUptoSaid : Prop := matchInvalidUptoRow.holds Try.pinned (OpenSpec.upto matchInvalidSpec)

/-- 'cardgamelaw29.MatchPlayers', WHERE WHAT IT READS IS OF BULK AT MOST 1048576: true; the input reads as it did. -/
def matchPlayersUptoRow : OpenClaim := { program := "ytdpiijfehkafnaa", sum := "97f2be844794d2daf470a7781ee34f44ecdd6a6a164ff728cebf958dba68c78b", func := "cardgame/cardgamelaw29.MatchPlayers", spec := "matchPlayers", inPlace := ["internal/bytealg.IndexByteString", "internal/bytealg.IndexString"], unfollowed := true, recurses := true, named := ["internal/bytealg.MaxLen"], apart := false, narrowed := true }
def MatchPlayersUptoSaid : Prop := matchPlayersUptoRow.holds Try.pinned (OpenSpec.upto matchPlayersSpec)

/-- 'cardgamelaw29.MatchLists', WHERE WHAT IT READS IS OF BULK AT MOST 1048576: true; the input reads as it did. -/
def matchListsUptoRow : OpenClaim := { program := "ytdpiijfehkafnaa", sum := "97f2be844794d2daf470a7781ee34f44ecdd6a6a164ff728cebf958dba68c78b", func := "cardgame/cardgamelaw29.MatchLists", spec := "matchLists", inPlace := ["internal/bytealg.IndexByteString", "internal/bytealg.IndexString"], unfollowed := true, recurses := true, named := ["internal/bytealg.MaxLen"], apart := false, narrowed := true }
def MatchListsUptoSaid : Prop := matchListsUptoRow.holds Try.pinned (OpenSpec.upto matchListsSpec)

end Rows
end Go.Proofs.Ytdpiijfehkafnaa
