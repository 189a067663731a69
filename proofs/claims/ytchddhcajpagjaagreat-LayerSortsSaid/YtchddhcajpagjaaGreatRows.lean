/-
  No cell of these rows narrows 'for every input' (looked for: loops, veiled, ifaces, maps, wideKeys, modest, calm, conditions, laid).
  DERIVED. THE GIVEN ROWS OF THIS SEAT. 7 by the template 'for every input the law returns true; each argument reads behind the call as it read before'; 0 by the template 'total and deterministic' (their statements: YtchddhcajpagjaaGreatTotals.lean).
  GIVEN WITH THE SEED: the statements are not yours to turn. If you find one false, say at which input.
  Laid BY PROGRAM, IN A SANDBOX (cutbox-rows.mjs): the forced cells as the released guide's own fill.sh prints them over the translation ba9c8254f170654d… (all of the seat's roots in one cut). By AI agents, Wed Nov 11 2026. No macro, syntax, notation, axiom, sorry.
-/
import Derived.Test.YtchddhcajpagjaaGreatChecked
import GoSem.Claim
import GoSem.ClaimJoined
import GoSem.ClaimMapViews
import Derived.JoinedTies
import Derived.KernelRfl
namespace Go.Proofs.YtchddhcajpagjaaGreat
/- THE CELL 'sum', in the pinned program and in every row, IS THE sha256 OF THE DUMP (.gsa) THAT YtchddhcajpagjaaGreatProg.lean LOADS. Nothing in Lean hashes anything: it is a label: what it is worth is what the hold of that sum in a sandbox is worth. -/
noncomputable def Tryz.pinned : Pinned := { name := "ytchddhcajpagjaagreat", sum := "ba9c8254f170654dbe0b400cec2bf395b8cfebb31bd8a53aac430bf0459ef492", checked := Tryz.checked }
namespace Rows
def none {H : Type} : Left H := { results := [], args := [] }

/-- 'cardgamelaw30.LayerForces': WHATEVER THE INPUT: true; the input reads as it did. -/
def layerForcesSpec : ChangeSpec := { name := "layerForces", fn := fun _ => fun
  | [d1, d2] => { results := [.lit (.bool true)], args := [d1, d2] }
  | _ => none }
def layerForcesRow : OpenClaim := { program := "ytchddhcajpagjaagreat", sum := "ba9c8254f170654dbe0b400cec2bf395b8cfebb31bd8a53aac430bf0459ef492", func := "cardgame/cardgamelaw30.LayerForces", spec := "layerForces", inPlace := ["internal/bytealg.IndexByteString", "internal/bytealg.IndexString", "slices.overlaps[string]"], unfollowed := true, recurses := true, named := ["internal/bytealg.MaxLen"], apart := false }
def LayerForcesSaid : Prop := layerForcesRow.holds Tryz.pinned (OpenSpec.ofChange layerForcesSpec)

/-- ITS FALSE NEIGHBOUR: 'it returns false'. Refute it at one input. -/
def layerForcesWrong : ChangeSpec := { name := "layerForces", fn := fun _ => fun
  | [d1, d2] => { results := [.lit (.bool false)], args := [d1, d2] }
  | _ => none }
def LayerForcesWrongFalsely : Prop := layerForcesRow.holds Tryz.pinned (OpenSpec.ofChange layerForcesWrong)

/-- 'cardgamelaw30.LayerComputes': WHATEVER THE INPUT: true; the input reads as it did. -/
def layerComputesSpec : ChangeSpec := { name := "layerComputes", fn := fun _ => fun
  | [d1, d2] => { results := [.lit (.bool true)], args := [d1, d2] }
  | _ => none }
def layerComputesRow : OpenClaim := { program := "ytchddhcajpagjaagreat", sum := "ba9c8254f170654dbe0b400cec2bf395b8cfebb31bd8a53aac430bf0459ef492", func := "cardgame/cardgamelaw30.LayerComputes", spec := "layerComputes", inPlace := ["internal/bytealg.IndexByteString", "internal/bytealg.IndexString", "slices.overlaps[string]"], unfollowed := true, recurses := true, named := ["internal/bytealg.MaxLen"], apart := false }
def LayerComputesSaid : Prop := layerComputesRow.holds Tryz.pinned (OpenSpec.ofChange layerComputesSpec)

/-- ITS FALSE NEIGHBOUR: 'it returns false'. Refute it at one input. -/
def layerComputesWrong : ChangeSpec := { name := "layerComputes", fn := fun _ => fun
  | [d1, d2] => { results := [.lit (.bool false)], args := [d1, d2] }
  | _ => none }
def LayerComputesWrongFalsely : Prop := layerComputesRow.holds Tryz.pinned (OpenSpec.ofChange layerComputesWrong)

/-- 'cardgamelaw30.LayerOrder': WHATEVER THE INPUT: true; the input reads as it did. -/
def layerOrderSpec : ChangeSpec := { name := "layerOrder", fn := fun _ => fun
  | [d1, d2, d3] => { results := [.lit (.bool true)], args := [d1, d2, d3] }
  | _ => none }
def layerOrderRow : OpenClaim := { program := "ytchddhcajpagjaagreat", sum := "ba9c8254f170654dbe0b400cec2bf395b8cfebb31bd8a53aac430bf0459ef492", func := "cardgame/cardgamelaw30.LayerOrder", spec := "layerOrder", inPlace := ["internal/bytealg.IndexByteString", "internal/bytealg.IndexString", "slices.overlaps[string]"], unfollowed := true, recurses := true, named := ["internal/bytealg.MaxLen"], apart := false }
def LayerOrderSaid : Prop := layerOrderRow.holds Tryz.pinned (OpenSpec.ofChange layerOrderSpec)

/-- ITS FALSE NEIGHBOUR: 'it returns false'. Refute it at one input. -/
def layerOrderWrong : ChangeSpec := { name := "layerOrder", fn := fun _ => fun
  | [d1, d2, d3] => { results := [.lit (.bool false)], args := [d1, d2, d3] }
  | _ => none }
def LayerOrderWrongFalsely : Prop := layerOrderRow.holds Tryz.pinned (OpenSpec.ofChange layerOrderWrong)

/-- 'cardgamelaw30.LayerElsewhere': WHATEVER THE INPUT: true; the input reads as it did. -/
def layerElsewhereSpec : ChangeSpec := { name := "layerElsewhere", fn := fun _ => fun
  | [d1, d2] => { results := [.lit (.bool true)], args := [d1, d2] }
  | _ => none }
def layerElsewhereRow : OpenClaim := { program := "ytchddhcajpagjaagreat", sum := "ba9c8254f170654dbe0b400cec2bf395b8cfebb31bd8a53aac430bf0459ef492", func := "cardgame/cardgamelaw30.LayerElsewhere", spec := "layerElsewhere", inPlace := ["internal/bytealg.IndexByteString", "internal/bytealg.IndexString", "slices.overlaps[string]"], unfollowed := true, recurses := true, named := ["internal/bytealg.MaxLen"], apart := false }
def LayerElsewhereSaid : Prop := layerElsewhereRow.holds Tryz.pinned (OpenSpec.ofChange layerElsewhereSpec)

/-- ITS FALSE NEIGHBOUR: 'it returns false'. Refute it at one input. -/
def layerElsewhereWrong : ChangeSpec := { name := "layerElsewhere", fn := fun _ => fun
  | [d1, d2] => { results := [.lit (.bool false)], args := [d1, d2] }
  | _ => none }
def LayerElsewhereWrongFalsely : Prop := layerElsewhereRow.holds Tryz.pinned (OpenSpec.ofChange layerElsewhereWrong)

/-- 'cardgamelaw30.LayerPlain': WHATEVER THE INPUT: true; the input reads as it did. -/
def layerPlainSpec : ChangeSpec := { name := "layerPlain", fn := fun _ => fun
  | [d1, d2] => { results := [.lit (.bool true)], args := [d1, d2] }
  | _ => none }
def layerPlainRow : OpenClaim := { program := "ytchddhcajpagjaagreat", sum := "ba9c8254f170654dbe0b400cec2bf395b8cfebb31bd8a53aac430bf0459ef492", func := "cardgame/cardgamelaw30.LayerPlain", spec := "layerPlain", inPlace := ["internal/bytealg.IndexByteString", "internal/bytealg.IndexString", "slices.overlaps[string]"], unfollowed := true, recurses := true, named := ["internal/bytealg.MaxLen"], apart := false }
def LayerPlainSaid : Prop := layerPlainRow.holds Tryz.pinned (OpenSpec.ofChange layerPlainSpec)

/-- ITS FALSE NEIGHBOUR: 'it returns false'. Refute it at one input. -/
def layerPlainWrong : ChangeSpec := { name := "layerPlain", fn := fun _ => fun
  | [d1, d2] => { results := [.lit (.bool false)], args := [d1, d2] }
  | _ => none }
def LayerPlainWrongFalsely : Prop := layerPlainRow.holds Tryz.pinned (OpenSpec.ofChange layerPlainWrong)

/-- 'cardgamelaw30.LayerFinds': WHATEVER THE INPUT: true; the input reads as it did. -/
def layerFindsSpec : ChangeSpec := { name := "layerFinds", fn := fun _ => fun
  | [d1, d2, d3] => { results := [.lit (.bool true)], args := [d1, d2, d3] }
  | _ => none }
def layerFindsRow : OpenClaim := { program := "ytchddhcajpagjaagreat", sum := "ba9c8254f170654dbe0b400cec2bf395b8cfebb31bd8a53aac430bf0459ef492", func := "cardgame/cardgamelaw30.LayerFinds", spec := "layerFinds", inPlace := ["internal/bytealg.IndexByteString", "internal/bytealg.IndexString", "slices.overlaps[string]"], unfollowed := true, recurses := true, named := ["internal/bytealg.MaxLen"], apart := false }
def LayerFindsSaid : Prop := layerFindsRow.holds Tryz.pinned (OpenSpec.ofChange layerFindsSpec)

/-- ITS FALSE NEIGHBOUR: 'it returns false'. Refute it at one input. -/
def layerFindsWrong : ChangeSpec := { name := "layerFinds", fn := fun _ => fun
  | [d1, d2, d3] => { results := [.lit (.bool false)], args := [d1, d2, d3] }
  | _ => none }
def LayerFindsWrongFalsely : Prop := layerFindsRow.holds Tryz.pinned (OpenSpec.ofChange layerFindsWrong)

/-- 'cardgamelaw30.LayerSorts': WHATEVER THE INPUT: true; the input reads as it did. -/
def layerSortsSpec : ChangeSpec := { name := "layerSorts", fn := fun _ => fun
  | [d1, d2, d3] => { results := [.lit (.bool true)], args := [d1, d2, d3] }
  | _ => none }
def layerSortsRow : OpenClaim := { program := "ytchddhcajpagjaagreat", sum := "ba9c8254f170654dbe0b400cec2bf395b8cfebb31bd8a53aac430bf0459ef492", func := "cardgame/cardgamelaw30.LayerSorts", spec := "layerSorts", inPlace := ["internal/bytealg.IndexByteString", "internal/bytealg.IndexString", "slices.overlaps[string]"], unfollowed := true, recurses := true, named := ["internal/bytealg.MaxLen"], apart := false }
def LayerSortsSaid : Prop := layerSortsRow.holds Tryz.pinned (OpenSpec.ofChange layerSortsSpec)

/-- ITS FALSE NEIGHBOUR: 'it returns false'. Refute it at one input. -/
def layerSortsWrong : ChangeSpec := { name := "layerSorts", fn := fun _ => fun
  | [d1, d2, d3] => { results := [.lit (.bool false)], args := [d1, d2, d3] }
  | _ => none }
def LayerSortsWrongFalsely : Prop := layerSortsRow.holds Tryz.pinned (OpenSpec.ofChange layerSortsWrong)

/- THE SECOND FORM. 'bulk': how many values and letters a reading holds, each counted each time it is reached (what is shared counts as often as it is met; a slice's spare places count too). A statement '..UptoSaid' is the law's where the arguments, and the package variables that the reading takes, are together of bulk at most 1048576: NARROWER than '..Said'. Prove '..Said' where nothing that the law and all that it calls make is longer than what came in: it says more and counts as full. Else prove '..UptoSaid'. A law counts once. -/
mutual
def uptoBulk {H : Type} : DataW H → Nat
  | .lit (.string bytes) => bytes.length + 1
  | .lit _ => 1
  | .nil => 1
  | .ptr d => uptoBulk d + 1
  | .slice elems spare => uptoBulkAll elems + uptoBulkAll spare + 1
  | .agg parts => uptoBulkAll parts + 1
  | .iface _ d => uptoBulk d + 1
  | .map entries => uptoBulkEntries entries + 1
  | .held _ => 1
def uptoBulkAll {H : Type} : List (DataW H) → Nat
  | [] => 0
  | d :: r => uptoBulk d + uptoBulkAll r
def uptoBulkEntries {H : Type} : List (Lit × DataW H) → Nat
  | [] => 0
  | x :: r => uptoBulkEntry x + uptoBulkEntries r
def uptoBulkEntry {H : Type} : Lit × DataW H → Nat
  | (.string bytes, d) => bytes.length + uptoBulk d + 1
  | (_, d) => uptoBulk d + 1
 end
def uptoSmall : (H : Type) → List (DataW H) → Bool := fun _ ds => decide (uptoBulkAll ds ≤ 1048576)
def OpenSpec.upto (s : _root_.Go.ChangeSpec) : _root_.Go.OpenSpec := { _root_.Go.OpenSpec.ofChange s with cond := some uptoSmall }

/-- 'cardgamelaw30.LayerForces', WHERE WHAT IT READS IS OF BULK AT MOST 1048576: true; the input reads as it did. -/
def layerForcesUptoRow : OpenClaim := { program := "ytchddhcajpagjaagreat", sum := "ba9c8254f170654dbe0b400cec2bf395b8cfebb31bd8a53aac430bf0459ef492", func := "cardgame/cardgamelaw30.LayerForces", spec := "layerForces", inPlace := ["internal/bytealg.IndexByteString", "internal/bytealg.IndexString", "slices.overlaps[string]"], unfollowed := true, recurses := true, named := ["internal/bytealg.MaxLen"], apart := false, narrowed := true }
def LayerForcesUptoSaid : Prop := layerForcesUptoRow.holds Tryz.pinned (OpenSpec.upto layerForcesSpec)

/-- 'cardgamelaw30.LayerComputes', WHERE WHAT IT READS IS OF BULK AT MOST 1048576: true; the input reads as it did. -/
def layerComputesUptoRow : OpenClaim := { program := "ytchddhcajpagjaagreat", sum := "ba9c8254f170654dbe0b400cec2bf395b8cfebb31bd8a53aac430bf0459ef492", func := "cardgame/cardgamelaw30.LayerComputes", spec := "layerComputes", inPlace := ["internal/bytealg.IndexByteString", "internal/bytealg.IndexString", "slices.overlaps[string]"], unfollowed := true, recurses := true, named := ["internal/bytealg.MaxLen"], apart := false, narrowed := true }
def LayerComputesUptoSaid : Prop := layerComputesUptoRow.holds Tryz.pinned (OpenSpec.upto layerComputesSpec)

/-- 'cardgamelaw30.LayerOrder', WHERE WHAT IT READS IS OF BULK AT MOST 1048576: true; the input reads as it did. -/
def layerOrderUptoRow : OpenClaim := { program := "ytchddhcajpagjaagreat", sum := "ba9c8254f170654dbe0b400cec2bf395b8cfebb31bd8a53aac430bf0459ef492", func := "cardgame/cardgamelaw30.LayerOrder", spec := "layerOrder", inPlace := ["internal/bytealg.IndexByteString", "internal/bytealg.IndexString", "slices.overlaps[string]"], unfollowed := true, recurses := true, named := ["internal/bytealg.MaxLen"], apart := false, narrowed := true }
def LayerOrderUptoSaid : Prop := layerOrderUptoRow.holds Tryz.pinned (OpenSpec.upto layerOrderSpec)

/-- 'cardgamelaw30.LayerElsewhere', WHERE WHAT IT READS IS OF BULK AT MOST 1048576: true; the input reads as it did. -/
def layerElsewhereUptoRow : OpenClaim := { program := "ytchddhcajpagjaagreat", sum := "ba9c8254f170654dbe0b400cec2bf395b8cfebb31bd8a53aac430bf0459ef492", func := "cardgame/cardgamelaw30.LayerElsewhere", spec := "layerElsewhere", inPlace := ["internal/bytealg.IndexByteString", "internal/bytealg.IndexString", "slices.overlaps[string]"], unfollowed := true, recurses := true, named := ["internal/bytealg.MaxLen"], apart := false, narrowed := true }
def LayerElsewhereUptoSaid : Prop := layerElsewhereUptoRow.holds Tryz.pinned (OpenSpec.upto layerElsewhereSpec)

/-- 'cardgamelaw30.LayerPlain', WHERE WHAT IT READS IS OF BULK AT MOST 1048576: true; the input reads as it did. -/
def layerPlainUptoRow : OpenClaim := { program := "ytchddhcajpagjaagreat", sum := "ba9c8254f170654dbe0b400cec2bf395b8cfebb31bd8a53aac430bf0459ef492", func := "cardgame/cardgamelaw30.LayerPlain", spec := "layerPlain", inPlace := ["internal/bytealg.IndexByteString", "internal/bytealg.IndexString", "slices.overlaps[string]"], unfollowed := true, recurses := true, named := ["internal/bytealg.MaxLen"], apart := false, narrowed := true }
def LayerPlainUptoSaid : Prop := layerPlainUptoRow.holds Tryz.pinned (OpenSpec.upto layerPlainSpec)

/-- 'cardgamelaw30.LayerFinds', WHERE WHAT IT READS IS OF BULK AT MOST 1048576: true; the input reads as it did. -/
def layerFindsUptoRow : OpenClaim := { program := "ytchddhcajpagjaagreat", sum := "ba9c8254f170654dbe0b400cec2bf395b8cfebb31bd8a53aac430bf0459ef492", func := "cardgame/cardgamelaw30.LayerFinds", spec := "layerFinds", inPlace := ["internal/bytealg.IndexByteString", "internal/bytealg.IndexString", "slices.overlaps[string]"], unfollowed := true, recurses := true, named := ["internal/bytealg.MaxLen"], apart := false, narrowed := true }
def LayerFindsUptoSaid : Prop := layerFindsUptoRow.holds Tryz.pinned (OpenSpec.upto layerFindsSpec)

/-- 'cardgamelaw30.LayerSorts', WHERE WHAT IT READS IS OF BULK AT MOST 1048576: true; the input reads as it did. -/
def layerSortsUptoRow : OpenClaim := { program := "ytchddhcajpagjaagreat", sum := "ba9c8254f170654dbe0b400cec2bf395b8cfebb31bd8a53aac430bf0459ef492", func := "cardgame/cardgamelaw30.LayerSorts", spec := "layerSorts", inPlace := ["internal/bytealg.IndexByteString", "internal/bytealg.IndexString", "slices.overlaps[string]"], unfollowed := true, recurses := true, named := ["internal/bytealg.MaxLen"], apart := false, narrowed := true }
def LayerSortsUptoSaid : Prop := layerSortsUptoRow.holds Tryz.pinned (OpenSpec.upto layerSortsSpec)

end Rows
end Go.Proofs.YtchddhcajpagjaaGreat
