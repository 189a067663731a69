/-
  No cell of these rows narrows 'for every input' (looked for: loops, veiled, ifaces, maps, wideKeys, modest, calm, conditions, laid).
  DERIVED. THE GIVEN ROWS OF THIS SEAT. 6 by the template 'for every input the law returns true; each argument reads behind the call as it read before'; 0 by the template 'total and deterministic' (their statements: YthnagpmgjlnioaaTotals.lean).
  GIVEN WITH THE SEED: the statements are not yours to turn. If you find one false, say at which input.
  Laid BY PROGRAM, IN A SANDBOX (cutbox-rows.mjs): the forced cells as the released guide's own fill.sh prints them over the translation e7f10b854e3ebb9a… (all of the seat's roots in one cut). By AI agents, Wed Nov 11 2026. No macro, syntax, notation, axiom, sorry.
-/
import Derived.Test.YthnagpmgjlnioaaChecked
import GoSem.Claim
import GoSem.ClaimJoined
import GoSem.ClaimMapViews
import Derived.JoinedTies
import Derived.KernelRfl
namespace Go.Proofs.Ythnagpmgjlnioaa
/- THE CELL 'sum', in the pinned program and in every row, IS THE sha256 OF THE DUMP (.gsa) THAT YthnagpmgjlnioaaProg.lean LOADS. Nothing in Lean hashes anything: it is a label: what it is worth is what the hold of that sum in a sandbox is worth. -/
noncomputable def Try.pinned : Pinned := { name := "ythnagpmgjlnioaa", sum := "e7f10b854e3ebb9a6f5271ed528f7327b15e4de2a70596668a4cf9c1b87242d4", checked := Try.checked }
namespace Rows
def none {H : Type} : Left H := { results := [], args := [] }

/-- 'cardgamelaw36.AskValid': WHATEVER THE INPUT: true; the input reads as it did. -/
def askValidSpec : ChangeSpec := { name := "askValid", fn := fun _ => fun
  | [d1, d2] => { results := [.lit (.bool true)], args := [d1, d2] }
  | _ => none }
def askValidRow : OpenClaim := { program := "ythnagpmgjlnioaa", sum := "e7f10b854e3ebb9a6f5271ed528f7327b15e4de2a70596668a4cf9c1b87242d4", func := "cardgame/cardgamelaw36.AskValid", spec := "askValid", apart := false }
def AskValidSaid : Prop := askValidRow.holds Try.pinned (OpenSpec.ofChange askValidSpec)

/-- ITS FALSE NEIGHBOUR: 'it returns false'. Refute it at one input. -/
def askValidWrong : ChangeSpec := { name := "askValid", fn := fun _ => fun
  | [d1, d2] => { results := [.lit (.bool false)], args := [d1, d2] }
  | _ => none }
def AskValidWrongFalsely : Prop := askValidRow.holds Try.pinned (OpenSpec.ofChange askValidWrong)

/-- 'cardgamelaw36.AskPicks': WHATEVER THE INPUT: true; the input reads as it did. -/
def askPicksSpec : ChangeSpec := { name := "askPicks", fn := fun _ => fun
  | [d1, d2] => { results := [.lit (.bool true)], args := [d1, d2] }
  | _ => none }
def askPicksRow : OpenClaim := { program := "ythnagpmgjlnioaa", sum := "e7f10b854e3ebb9a6f5271ed528f7327b15e4de2a70596668a4cf9c1b87242d4", func := "cardgame/cardgamelaw36.AskPicks", spec := "askPicks", apart := false }
def AskPicksSaid : Prop := askPicksRow.holds Try.pinned (OpenSpec.ofChange askPicksSpec)

/-- ITS FALSE NEIGHBOUR: 'it returns false'. Refute it at one input. -/
def askPicksWrong : ChangeSpec := { name := "askPicks", fn := fun _ => fun
  | [d1, d2] => { results := [.lit (.bool false)], args := [d1, d2] }
  | _ => none }
def AskPicksWrongFalsely : Prop := askPicksRow.holds Try.pinned (OpenSpec.ofChange askPicksWrong)

/-- 'cardgamelaw36.AskNil': WHATEVER THE INPUT: true; the input reads as it did. -/
def askNilSpec : ChangeSpec := { name := "askNil", fn := fun _ => fun
  | [d] => { results := [.lit (.bool true)], args := [d] }
  | _ => none }
def askNilRow : OpenClaim := { program := "ythnagpmgjlnioaa", sum := "e7f10b854e3ebb9a6f5271ed528f7327b15e4de2a70596668a4cf9c1b87242d4", func := "cardgame/cardgamelaw36.AskNil", spec := "askNil", apart := false }
def AskNilSaid : Prop := askNilRow.holds Try.pinned (OpenSpec.ofChange askNilSpec)

/-- ITS FALSE NEIGHBOUR: 'it returns false'. Refute it at one input. -/
def askNilWrong : ChangeSpec := { name := "askNil", fn := fun _ => fun
  | [d] => { results := [.lit (.bool false)], args := [d] }
  | _ => none }
def AskNilWrongFalsely : Prop := askNilRow.holds Try.pinned (OpenSpec.ofChange askNilWrong)

/-- 'cardgamelaw36.AskDefaults': WHATEVER THE INPUT: true; the input reads as it did. -/
def askDefaultsSpec : ChangeSpec := { name := "askDefaults", fn := fun _ => fun
  | [d1, d2] => { results := [.lit (.bool true)], args := [d1, d2] }
  | _ => none }
def askDefaultsRow : OpenClaim := { program := "ythnagpmgjlnioaa", sum := "e7f10b854e3ebb9a6f5271ed528f7327b15e4de2a70596668a4cf9c1b87242d4", func := "cardgame/cardgamelaw36.AskDefaults", spec := "askDefaults", apart := false }
def AskDefaultsSaid : Prop := askDefaultsRow.holds Try.pinned (OpenSpec.ofChange askDefaultsSpec)

/-- ITS FALSE NEIGHBOUR: 'it returns false'. Refute it at one input. -/
def askDefaultsWrong : ChangeSpec := { name := "askDefaults", fn := fun _ => fun
  | [d1, d2] => { results := [.lit (.bool false)], args := [d1, d2] }
  | _ => none }
def AskDefaultsWrongFalsely : Prop := askDefaultsRow.holds Try.pinned (OpenSpec.ofChange askDefaultsWrong)

/-- 'cardgamelaw36.AskApart': WHATEVER THE INPUT: true; the input reads as it did. -/
def askApartSpec : ChangeSpec := { name := "askApart", fn := fun _ => fun
  | [d1, d2] => { results := [.lit (.bool true)], args := [d1, d2] }
  | _ => none }
def askApartRow : OpenClaim := { program := "ythnagpmgjlnioaa", sum := "e7f10b854e3ebb9a6f5271ed528f7327b15e4de2a70596668a4cf9c1b87242d4", func := "cardgame/cardgamelaw36.AskApart", spec := "askApart", apart := false }
def AskApartSaid : Prop := askApartRow.holds Try.pinned (OpenSpec.ofChange askApartSpec)

/-- ITS FALSE NEIGHBOUR: 'it returns false'. Refute it at one input. -/
def askApartWrong : ChangeSpec := { name := "askApart", fn := fun _ => fun
  | [d1, d2] => { results := [.lit (.bool false)], args := [d1, d2] }
  | _ => none }
def AskApartWrongFalsely : Prop := askApartRow.holds Try.pinned (OpenSpec.ofChange askApartWrong)

/-- 'cardgamelaw36.AskStops': WHATEVER THE INPUT: true; the input reads as it did. -/
def askStopsSpec : ChangeSpec := { name := "askStops", fn := fun _ => fun
  | [d1, d2] => { results := [.lit (.bool true)], args := [d1, d2] }
  | _ => none }
def askStopsRow : OpenClaim := { program := "ythnagpmgjlnioaa", sum := "e7f10b854e3ebb9a6f5271ed528f7327b15e4de2a70596668a4cf9c1b87242d4", func := "cardgame/cardgamelaw36.AskStops", spec := "askStops", apart := false }
def AskStopsSaid : Prop := askStopsRow.holds Try.pinned (OpenSpec.ofChange askStopsSpec)

/-- ITS FALSE NEIGHBOUR: 'it returns false'. Refute it at one input. -/
def askStopsWrong : ChangeSpec := { name := "askStops", fn := fun _ => fun
  | [d1, d2] => { results := [.lit (.bool false)], args := [d1, d2] }
  | _ => none }
def AskStopsWrongFalsely : Prop := askStopsRow.holds Try.pinned (OpenSpec.ofChange askStopsWrong)

/- THE SECOND FORM. 'bulk': how many values and letters a reading holds, each counted each time it is reached (what is shared counts as often as it is met; a slice's spare places count too). A statement '..UptoSaid' is the law's where the arguments, and the package variables that the reading takes, are together of bulk at most 1048576: NARROWER than '..Said'. Prove '..Said' where nothing that the law and all that it calls make is longer than what came in: it says more and counts as full. Else prove '..UptoSaid'. A law counts once. -/
mutual
def uptoBulk {H : Type} : DataW H → Nat
  | .lit (.string bytes) => bytes.length + 1
  | .lit _ => 1
  | .nil => 1
  | .ptr d => uptoBulk d + 1
  | .slice elems spare => uptoBulkAll elems + uptoBulkAll spare + 1
  | .agg parts => uptoBulkAll parts + 1
  | .iface _ d => uptoBulk d + 1
  | .map entries => uptoBulkEntries entries + 1
  | .held _ => 1
def uptoBulkAll {H : Type} : List (DataW H) → Nat
  | [] => 0
  | d :: r => uptoBulk d + uptoBulkAll r
def uptoBulkEntries {H : Type} : List (Lit × DataW H) → Nat
  | [] => 0
  | x :: r => uptoBulkEntry x + uptoBulkEntries r
def uptoBulkEntry {H : Type} : Lit × DataW H → Nat
  | (.string bytes, d) => bytes.length + uptoBulk d + 1
  | (_, d) => uptoBulk d + 1
 end
def uptoSmall : (H : Type) → List (DataW H) → Bool := fun _ ds => decide (uptoBulkAll ds ≤ 1048576)
def OpenSpec.upto (s : _root_.Go.ChangeSpec) : _root_.Go.OpenSpec := { _root_.Go.OpenSpec.ofChange s with cond := some uptoSmall }

/-- 'cardgamelaw36.AskValid', WHERE WHAT IT READS IS OF BULK AT MOST 1048576: true; the input reads as it did. -/
def askValidUptoRow : OpenClaim := { program := "ythnagpmgjlnioaa", sum := "e7f10b854e3ebb9a6f5271ed528f7327b15e4de2a70596668a4cf9c1b87242d4", func := "cardgame/cardgamelaw36.AskValid", spec := "askValid", apart := false, narrowed := true }
def AskValidUptoSaid : Prop := askValidUptoRow.holds Try.pinned (OpenSpec.upto askValidSpec)

/-- 'cardgamelaw36.AskPicks', WHERE WHAT IT READS IS OF BULK AT MOST 1048576: true; the input reads as it did. -/
def askPicksUptoRow : OpenClaim := { program := "ythnagpmgjlnioaa", sum := "e7f10b854e3ebb9a6f5271ed528f7327b15e4de2a70596668a4cf9c1b87242d4", func := "cardgame/cardgamelaw36.AskPicks", spec := "askPicks", apart := false, narrowed := true }
def AskPicksUptoSaid : Prop := askPicksUptoRow.holds Try.pinned (OpenSpec.upto askPicksSpec)

/-- 'cardgamelaw36.AskNil', WHERE WHAT IT READS IS OF BULK AT MOST 1048576: true; the input reads as it did. -/
def askNilUptoRow : OpenClaim := { program := "ythnagpmgjlnioaa", sum := "e7f10b854e3ebb9a6f5271ed528f7327b15e4de2a70596668a4cf9c1b87242d4", func := "cardgame/cardgamelaw36.AskNil", spec := "askNil", apart := false, narrowed := true }
def AskNilUptoSaid : Prop := askNilUptoRow.holds Try.pinned (OpenSpec.upto askNilSpec)

/-- 'cardgamelaw36.AskDefaults', WHERE WHAT IT READS IS OF BULK AT MOST 1048576: true; the input reads as it did. -/
def askDefaultsUptoRow : OpenClaim := { program := "ythnagpmgjlnioaa", sum := "e7f10b854e3ebb9a6f5271ed528f7327b15e4de2a70596668a4cf9c1b87242d4", func := "cardgame/cardgamelaw36.AskDefaults", spec := "askDefaults", apart := false, narrowed := true }
def AskDefaultsUptoSaid : Prop := askDefaultsUptoRow.holds Try.pinned (OpenSpec.upto askDefaultsSpec)

/-- 'cardgamelaw36.AskApart', WHERE WHAT IT READS IS OF BULK AT MOST 1048576: true; the input reads as it did. -/
def askApartUptoRow : OpenClaim := { program := "ythnagpmgjlnioaa", sum := "e7f10b854e3ebb9a6f5271ed528f7327b15e4de2a70596668a4cf9c1b87242d4", func := "cardgame/cardgamelaw36.AskApart", spec := "askApart", apart := false, narrowed := true }
def AskApartUptoSaid : Prop := askApartUptoRow.holds Try.pinned (OpenSpec.upto askApartSpec)

/-- 'cardgamelaw36.AskStops', WHERE WHAT IT READS IS OF BULK AT MOST 1048576: true; the input reads as it did. -/
def askStopsUptoRow : OpenClaim := { program := "ythnagpmgjlnioaa", sum := "e7f10b854e3ebb9a6f5271ed528f7327b15e4de2a70596668a4cf9c1b87242d4", func := "cardgame/cardgamelaw36.AskStops", spec := "askStops", apart := false, narrowed := true }
def AskStopsUptoSaid : Prop := askStopsUptoRow.holds Try.pinned (OpenSpec.upto askStopsSpec)

end Rows
end Go.Proofs.Ythnagpmgjlnioaa
