import Derived.Test.YtdpiijfehkafnaaPwR
namespace Go.PW
open Go.RowKit
noncomputable section
structure api_Object where
  Id : Int
  Card : Int
  Owner : Int
  Control : Int
  Zone : Int
  Token : Bool
  Tapped : Bool
  Sick : Bool
  Deadly : Bool
  Damage : Int
  Counters : (A3 Int)
  Stamp : Int
  Copy : Int
  Attack : Int
  Blocked : Bool
  Blocks : Int
  Shield : Int
  deriving DecidableEq, Inhabited
def c_api_Object (x : api_Object) : List Tree := (cI .i64) x.Id ++ ((cI .i64) x.Card ++ ((cI .i64) x.Owner ++ ((cI .i64) x.Control ++ ((cI .i64) x.Zone ++ (cB x.Token ++ (cB x.Tapped ++ (cB x.Sick ++ (cB x.Deadly ++ ((cI .i64) x.Damage ++ ((cA3 (cI .i64)) x.Counters ++ ((cI .i64) x.Stamp ++ ((cI .i64) x.Copy ++ ((cI .i64) x.Attack ++ (cB x.Blocked ++ ((cI .i64) x.Blocks ++ ((cI .i64) x.Shield))))))))))))))))
structure api_Cost where
  Generic : Int
  X : Int
  Color : (A5 Int)
  deriving DecidableEq, Inhabited
def c_api_Cost (x : api_Cost) : List Tree := (cI .i64) x.Generic ++ ((cI .i64) x.X ++ ((cA5 (cI .i64)) x.Color))
structure api_Line where
  Super : Int
  Types : Int
  Subs : (List (List UInt8))
  deriving DecidableEq, Inhabited
def c_api_Line (x : api_Line) : List Tree := (cI .i64) x.Super ++ ((cI .i64) x.Types ++ ((cL cS) x.Subs))
structure api_Bound where
  Kind : Int
  N : Int
  deriving DecidableEq, Inhabited
def c_api_Bound (x : api_Bound) : List Tree := (cI .i64) x.Kind ++ ((cI .i64) x.N)
structure api_Filter where
  Zone : Int
  Who : Int
  Self : Int
  Types : Int
  NotTypes : Int
  Colors : Int
  NotColors : Int
  Sub : (List UInt8)
  Keys : Int
  Tap : Int
  Power : api_Bound
  Tough : api_Bound
  Value : api_Bound
  deriving DecidableEq, Inhabited
def c_api_Filter (x : api_Filter) : List Tree := (cI .i64) x.Zone ++ ((cI .i64) x.Who ++ ((cI .i64) x.Self ++ ((cI .i64) x.Types ++ ((cI .i64) x.NotTypes ++ ((cI .i64) x.Colors ++ ((cI .i64) x.NotColors ++ (cS x.Sub ++ ((cI .i64) x.Keys ++ ((cI .i64) x.Tap ++ (c_api_Bound x.Power ++ (c_api_Bound x.Tough ++ (c_api_Bound x.Value))))))))))))
structure api_Mod where
  Kind : Int
  N : Int
  M : Int
  Sub : (List UInt8)
  Filter : api_Filter
  deriving DecidableEq, Inhabited
def c_api_Mod (x : api_Mod) : List Tree := (cI .i64) x.Kind ++ ((cI .i64) x.N ++ ((cI .i64) x.M ++ (cS x.Sub ++ (c_api_Filter x.Filter))))
structure api_Price where
  Mana : api_Cost
  Tap : Bool
  Sacrifice : Bool
  Life : Int
  deriving DecidableEq, Inhabited
def c_api_Price (x : api_Price) : List Tree := c_api_Cost x.Mana ++ (cB x.Tap ++ (cB x.Sacrifice ++ ((cI .i64) x.Life)))
structure api_Trigger where
  When : Int
  Who : Int
  Filter : api_Filter
  deriving DecidableEq, Inhabited
def c_api_Trigger (x : api_Trigger) : List Tree := (cI .i64) x.When ++ ((cI .i64) x.Who ++ (c_api_Filter x.Filter))
structure api_Spec where
  Player : Bool
  Object : Bool
  Filter : api_Filter
  deriving DecidableEq, Inhabited
def c_api_Spec (x : api_Spec) : List Tree := cB x.Player ++ (cB x.Object ++ (c_api_Filter x.Filter))
structure api_Ref where
  Kind : Int
  N : Int
  Filter : api_Filter
  deriving DecidableEq, Inhabited
def c_api_Ref (x : api_Ref) : List Tree := (cI .i64) x.Kind ++ ((cI .i64) x.N ++ (c_api_Filter x.Filter))
structure api_Amount where
  Kind : Int
  N : Int
  Counter : Int
  Filter : api_Filter
  deriving DecidableEq, Inhabited
def c_api_Amount (x : api_Amount) : List Tree := (cI .i64) x.Kind ++ ((cI .i64) x.N ++ ((cI .i64) x.Counter ++ (c_api_Filter x.Filter)))
structure api_Effect where
  Op : Int
  Ref : api_Ref
  Amount : api_Amount
  Counter : Int
  Zone : Int
  Card : (List UInt8)
  Filter : api_Filter
  Pool : (A6 Int)
  Mods : (List api_Mod)
  deriving DecidableEq, Inhabited
def c_api_Effect (x : api_Effect) : List Tree := (cI .i64) x.Op ++ (c_api_Ref x.Ref ++ (c_api_Amount x.Amount ++ ((cI .i64) x.Counter ++ ((cI .i64) x.Zone ++ (cS x.Card ++ (c_api_Filter x.Filter ++ ((cA6 (cI .i64)) x.Pool ++ ((cL c_api_Mod) x.Mods))))))))
structure api_Replace where
  On : Int
  Who : Int
  Filter : api_Filter
  Do : Int
  N : Int
  Zone : Int
  Counter : Int
  deriving DecidableEq, Inhabited
def c_api_Replace (x : api_Replace) : List Tree := (cI .i64) x.On ++ ((cI .i64) x.Who ++ (c_api_Filter x.Filter ++ ((cI .i64) x.Do ++ ((cI .i64) x.N ++ ((cI .i64) x.Zone ++ ((cI .i64) x.Counter))))))
structure api_Ability where
  Kind : Int
  Filter : api_Filter
  Mods : (List api_Mod)
  Price : api_Price
  Slow : Bool
  Trigger : api_Trigger
  May : Bool
  Specs : (List api_Spec)
  Effects : (List api_Effect)
  Replace : api_Replace
  deriving DecidableEq, Inhabited
def c_api_Ability (x : api_Ability) : List Tree := (cI .i64) x.Kind ++ (c_api_Filter x.Filter ++ ((cL c_api_Mod) x.Mods ++ (c_api_Price x.Price ++ (cB x.Slow ++ (c_api_Trigger x.Trigger ++ (cB x.May ++ ((cL c_api_Spec) x.Specs ++ ((cL c_api_Effect) x.Effects ++ (c_api_Replace x.Replace)))))))))
structure api_Traits where
  Name : (List UInt8)
  Cost : api_Cost
  Colors : Int
  Line : api_Line
  Power : Int
  Tough : Int
  Keys : Int
  Abilities : (List api_Ability)
  Control : Int
  deriving DecidableEq, Inhabited
def c_api_Traits (x : api_Traits) : List Tree := cS x.Name ++ (c_api_Cost x.Cost ++ ((cI .i64) x.Colors ++ (c_api_Line x.Line ++ ((cI .i64) x.Power ++ ((cI .i64) x.Tough ++ ((cI .i64) x.Keys ++ ((cL c_api_Ability) x.Abilities ++ ((cI .i64) x.Control))))))))
structure cardgamelaw29_Ask where
  Object : api_Object
  Traits : api_Traits
  You : Int
  Source : Int
  deriving DecidableEq, Inhabited
def c_cardgamelaw29_Ask (x : cardgamelaw29_Ask) : List Tree := c_api_Object x.Object ++ (c_api_Traits x.Traits ++ ((cI .i64) x.You ++ ((cI .i64) x.Source)))
structure api_Player where
  Life : Int
  Venom : Int
  Lands : Int
  Pool : (A6 Int)
  Failed : Bool
  Lost : Bool
  Library : (List Int)
  Hand : (List Int)
  Graveyard : (List Int)
  deriving DecidableEq, Inhabited
def c_api_Player (x : api_Player) : List Tree := (cI .i64) x.Life ++ ((cI .i64) x.Venom ++ ((cI .i64) x.Lands ++ ((cA6 (cI .i64)) x.Pool ++ (cB x.Failed ++ (cB x.Lost ++ ((cL (cI .i64)) x.Library ++ ((cL (cI .i64)) x.Hand ++ ((cL (cI .i64)) x.Graveyard))))))))
structure api_Target where
  Object : Int
  Player : Int
  deriving DecidableEq, Inhabited
def c_api_Target (x : api_Target) : List Tree := (cI .i64) x.Object ++ ((cI .i64) x.Player)
structure api_Event where
  Kind : Int
  Source : Int
  Object : Int
  Player : Int
  Amount : Int
  From : Int
  To : Int
  Cause : Int
  Counter : Int
  Card : Int
  Combat : Bool
  Tapped : Bool
  Extra : (A3 Int)
  deriving DecidableEq, Inhabited
def c_api_Event (x : api_Event) : List Tree := (cI .i64) x.Kind ++ ((cI .i64) x.Source ++ ((cI .i64) x.Object ++ ((cI .i64) x.Player ++ ((cI .i64) x.Amount ++ ((cI .i64) x.From ++ ((cI .i64) x.To ++ ((cI .i64) x.Cause ++ ((cI .i64) x.Counter ++ ((cI .i64) x.Card ++ (cB x.Combat ++ (cB x.Tapped ++ ((cA3 (cI .i64)) x.Extra))))))))))))
structure api_Item where
  Id : Int
  Kind : Int
  Source : Int
  Control : Int
  X : Int
  Copy : Bool
  Ability : api_Ability
  Targets : (List api_Target)
  Event : api_Event
  deriving DecidableEq, Inhabited
def c_api_Item (x : api_Item) : List Tree := (cI .i64) x.Id ++ ((cI .i64) x.Kind ++ ((cI .i64) x.Source ++ ((cI .i64) x.Control ++ ((cI .i64) x.X ++ (cB x.Copy ++ (c_api_Ability x.Ability ++ ((cL c_api_Target) x.Targets ++ (c_api_Event x.Event))))))))
structure api_Waiting where
  Source : Int
  Control : Int
  Ability : api_Ability
  Event : api_Event
  deriving DecidableEq, Inhabited
def c_api_Waiting (x : api_Waiting) : List Tree := (cI .i64) x.Source ++ ((cI .i64) x.Control ++ (c_api_Ability x.Ability ++ (c_api_Event x.Event)))
structure api_Cont where
  Stamp : Int
  Control : Int
  Source : Int
  Until : Int
  Objects : (List Int)
  Mods : (List api_Mod)
  deriving DecidableEq, Inhabited
def c_api_Cont (x : api_Cont) : List Tree := (cI .i64) x.Stamp ++ ((cI .i64) x.Control ++ ((cI .i64) x.Source ++ ((cI .i64) x.Until ++ ((cL (cI .i64)) x.Objects ++ ((cL c_api_Mod) x.Mods)))))
structure api_State where
  Players : (List api_Player)
  Objects : (List api_Object)
  Battlefield : (List Int)
  Exile : (List Int)
  Stack : (List api_Item)
  Waiting : (List api_Waiting)
  Conts : (List api_Cont)
  Turn : Int
  Active : Int
  Step : Int
  Begun : Bool
  Priority : Int
  Passes : Int
  NextId : Int
  NextStamp : Int
  Seed : Int
  Extra : (List Int)
  Over : Int
  Winner : Int
  deriving DecidableEq, Inhabited
def c_api_State (x : api_State) : List Tree := (cL c_api_Player) x.Players ++ ((cL c_api_Object) x.Objects ++ ((cL (cI .i64)) x.Battlefield ++ ((cL (cI .i64)) x.Exile ++ ((cL c_api_Item) x.Stack ++ ((cL c_api_Waiting) x.Waiting ++ ((cL c_api_Cont) x.Conts ++ ((cI .i64) x.Turn ++ ((cI .i64) x.Active ++ ((cI .i64) x.Step ++ (cB x.Begun ++ ((cI .i64) x.Priority ++ ((cI .i64) x.Passes ++ ((cI .i64) x.NextId ++ ((cI .i64) x.NextStamp ++ ((cI .u64) x.Seed ++ ((cL (cI .i64)) x.Extra ++ ((cI .i64) x.Over ++ ((cI .i64) x.Winner))))))))))))))))))
structure cardgamelaw29_Lists where
  S : api_State
  All : (List api_Traits)
  F : api_Filter
  You : Int
  Source : Int
  deriving DecidableEq, Inhabited
def c_cardgamelaw29_Lists (x : cardgamelaw29_Lists) : List Tree := c_api_State x.S ++ ((cL c_api_Traits) x.All ++ (c_api_Filter x.F ++ ((cI .i64) x.You ++ ((cI .i64) x.Source))))
inductive L29_light_S where
  | L0 (v22 : (List (List UInt8))) (v23 : Int) (v24 : Int)
def L29_light_L0 (v22 : (List (List UInt8))) (v23 : Int) (v24 : Int) : Option (L29_light_S ⊕ Bool) :=
  bif decide (v24 < v23) then
    Option.bind (idx? v22 v24) fun x4 =>
      bif decide ((x4.length : Int) > 100) then
        some (.inr false)
      else
        some (.inl (.L0 v22 v23 (IntKind.wrap .i64 (v24 + 1))))
  else
    some (.inr true)
def L29_light_step : L29_light_S → Option (L29_light_S ⊕ Bool)
  | .L0 v22 v23 v24 => L29_light_L0 v22 v23 v24
def L29_light_0 (a0 : cardgamelaw29_Ask) (a1 : api_Filter) : Option (L29_light_S ⊕ Bool) :=
  bif decide ((a1.Sub.length : Int) > 100) then
    some (.inr false)
  else
    bif decide ((a0.Traits.Line.Subs.length : Int) > 20) then
      some (.inr false)
    else
      some (.inl (.L0 a0.Traits.Line.Subs (a0.Traits.Line.Subs.length : Int) 0))
noncomputable def L29_light (a0 : cardgamelaw29_Ask) (a1 : api_Filter) : Option Bool := (L29_light_0 a0 a1).bind (endO L29_light_step)
abbrev filter_between_S := Empty
def filter_between_step : filter_between_S → Option (filter_between_S ⊕ Bool) := fun s => nomatch s
def filter_between_0 (a0 : Int) (a1 : Int) : Option (filter_between_S ⊕ Bool) :=
  bif decide (a0 ≥ 0) then
    some (.inr (decide (a0 ≤ a1)))
  else
    some (.inr false)
noncomputable def filter_between (a0 : Int) (a1 : Int) : Option Bool := (filter_between_0 a0 a1).bind (endO filter_between_step)
abbrev internal_bytealg_Cutover_S := Empty
def internal_bytealg_Cutover_step : internal_bytealg_Cutover_S → Option (internal_bytealg_Cutover_S ⊕ Int) := fun s => nomatch s
def internal_bytealg_Cutover_0 (a0 : Int) : Option (internal_bytealg_Cutover_S ⊕ Int) :=
  some (.inr (quoI .i64 (IntKind.wrap .i64 (a0 + 16)) 8))
noncomputable def internal_bytealg_Cutover (a0 : Int) : Option Int := (internal_bytealg_Cutover_0 a0).bind (endO internal_bytealg_Cutover_step)
inductive internal_bytealg_hashStr_string__S where
  | L0 (v0 : (List UInt8)) (v4 : Int) (v5 : Int)
  | L1 (v4 : Int) (v6 : Int) (v7 : Int) (v8 : Int)
def internal_bytealg_hashStr_string__L0 (v0 : (List UInt8)) (v4 : Int) (v5 : Int) : Option (internal_bytealg_hashStr_string__S ⊕ (Int × Int)) :=
  bif decide (v5 < (v0.length : Int)) then
    Option.bind (idx? v0 v5) fun x2 =>
      some (.inl (.L0 v0 (IntKind.wrap .u32 ((IntKind.wrap .u32 (v4 * 16777619)) + (IntKind.wrap .u32 (UInt8.toNat x2 : Int)))) (IntKind.wrap .i64 (v5 + 1))))
  else
    some (.inl (.L1 v4 1 16777619 (v0.length : Int)))
def internal_bytealg_hashStr_string__L1 (v4 : Int) (v6 : Int) (v7 : Int) (v8 : Int) : Option (internal_bytealg_hashStr_string__S ⊕ (Int × Int)) :=
  bif decide (v8 > 0) then
    bif ((bitOp .and .i64 v8 1) != 0) then
      some (.inl (.L1 v4 (IntKind.wrap .u32 (v6 * v7)) (IntKind.wrap .u32 (v7 * v7)) (shrI .i64 v8 1)))
    else
      some (.inl (.L1 v4 v6 (IntKind.wrap .u32 (v7 * v7)) (shrI .i64 v8 1)))
  else
    some (.inr (v4, v6))
def internal_bytealg_hashStr_string__step : internal_bytealg_hashStr_string__S → Option (internal_bytealg_hashStr_string__S ⊕ (Int × Int))
  | .L0 v0 v4 v5 => internal_bytealg_hashStr_string__L0 v0 v4 v5
  | .L1 v4 v6 v7 v8 => internal_bytealg_hashStr_string__L1 v4 v6 v7 v8
def internal_bytealg_hashStr_string__0 (a0 : (List UInt8)) : Option (internal_bytealg_hashStr_string__S ⊕ (Int × Int)) :=
  some (.inl (.L0 a0 0 0))
noncomputable def internal_bytealg_hashStr_string_ (a0 : (List UInt8)) : Option (Int × Int) := (internal_bytealg_hashStr_string__0 a0).bind (endO internal_bytealg_hashStr_string__step)
inductive word_Is_S where
  | L0 (v36 : (List Int)) (v37 : Int) (v38 : Int)
def word_Is_L0 (v36 : (List Int)) (v37 : Int) (v38 : Int) : Option (word_Is_S ⊕ Bool) :=
  bif decide (v38 < v37) then
    Option.bind (idx? v36 v38) fun x18 =>
      bif decide (x18 < 97) then
        bif decide (x18 < 48) then
          bif (x18 != 45) then
            some (.inr false)
          else
            some (.inl (.L0 v36 v37 (IntKind.wrap .i64 (v38 + 1))))
        else
          bif decide (x18 > 57) then
            bif (x18 != 45) then
              some (.inr false)
            else
              some (.inl (.L0 v36 v37 (IntKind.wrap .i64 (v38 + 1))))
          else
            some (.inl (.L0 v36 v37 (IntKind.wrap .i64 (v38 + 1))))
      else
        bif decide (x18 > 122) then
          bif decide (x18 < 48) then
            bif (x18 != 45) then
              some (.inr false)
            else
              some (.inl (.L0 v36 v37 (IntKind.wrap .i64 (v38 + 1))))
          else
            bif decide (x18 > 57) then
              bif (x18 != 45) then
                some (.inr false)
              else
                some (.inl (.L0 v36 v37 (IntKind.wrap .i64 (v38 + 1))))
            else
              some (.inl (.L0 v36 v37 (IntKind.wrap .i64 (v38 + 1))))
        else
          some (.inl (.L0 v36 v37 (IntKind.wrap .i64 (v38 + 1))))
  else
    some (.inr true)
def word_Is_step : word_Is_S → Option (word_Is_S ⊕ Bool)
  | .L0 v36 v37 v38 => word_Is_L0 v36 v37 v38
def word_Is_0 (a0 : (List UInt8)) : Option (word_Is_S ⊕ Bool) :=
  bif ((a0.length : Int) == 0) then
    some (.inr false)
  else
    bif decide ((a0.length : Int) > 32) then
      some (.inr false)
    else
      Option.bind (idx? a0 0) fun x3 =>
        bif decide ((UInt8.toNat x3 : Int) < 97) then
          some (.inr false)
        else
          Option.bind (idx? a0 0) fun x6 =>
            bif decide ((UInt8.toNat x6 : Int) > 122) then
              some (.inr false)
            else
              Option.bind (idx? a0 (IntKind.wrap .i64 ((a0.length : Int) - 1))) fun x9 =>
                bif ((UInt8.toNat x9 : Int) == 45) then
                  some (.inr false)
                else
                  Option.bind (strings_Contains a0 ([45, 45] : List UInt8)) fun x12 =>
                    bif x12 then
                      some (.inr false)
                    else
                      Option.bind (bytes? a0) fun x15 =>
                        some (.inl (.L0 x15 (x15.length : Int) 0))
noncomputable def word_Is (a0 : (List UInt8)) : Option Bool := (word_Is_0 a0).bind (endO word_Is_step)
abbrev line_superWord_S := Empty
def line_superWord_step : line_superWord_S → Option (line_superWord_S ⊕ (List UInt8)) := fun s => nomatch s
def line_superWord_0 (a0 : Int) : Option (line_superWord_S ⊕ (List UInt8)) :=
  Option.bind (idx? (A2.list (⟨([98, 97, 115, 105, 99] : List UInt8), ([117, 110, 105, 113, 117, 101] : List UInt8)⟩ : (A2 (List UInt8)))) a0) fun x1 =>
    some (.inr x1)
noncomputable def line_superWord (a0 : Int) : Option (List UInt8) := (line_superWord_0 a0).bind (endO line_superWord_step)
abbrev line_typeWord_S := Empty
def line_typeWord_step : line_typeWord_S → Option (line_typeWord_S ⊕ (List UInt8)) := fun s => nomatch s
def line_typeWord_0 (a0 : Int) : Option (line_typeWord_S ⊕ (List UInt8)) :=
  Option.bind (idx? (A6.list (⟨([99, 114, 101, 97, 116, 117, 114, 101] : List UInt8), ([105, 110, 115, 116, 97, 110, 116] : List UInt8), ([114, 105, 116, 117, 97, 108] : List UInt8), ([114, 101, 108, 105, 99] : List UInt8), ([99, 104, 97, 114, 109] : List UInt8), ([108, 97, 110, 100] : List UInt8)⟩ : (A6 (List UInt8)))) a0) fun x1 =>
    some (.inr x1)
noncomputable def line_typeWord (a0 : Int) : Option (List UInt8) := (line_typeWord_0 a0).bind (endO line_typeWord_step)
inductive line_bit__line_superWord_S where
  | L0 (v0 : (List UInt8)) (v8 : Int) (v9 : Int)
def line_bit__line_superWord_L0 (v0 : (List UInt8)) (v8 : Int) (v9 : Int) : Option (line_bit__line_superWord_S ⊕ Int) :=
  bif decide (v9 < v8) then
    Option.bind (line_superWord v9) fun x2 =>
      bif (!(x2 == v0)) then
        some (.inl (.L0 v0 v8 (IntKind.wrap .i64 (v9 + 1))))
      else
        Option.bind (ok? (decide (¬ v9 < 0))) fun x5 =>
          some (.inr (shlI .i64 1 v9))
  else
    some (.inr 0)
def line_bit__line_superWord_step : line_bit__line_superWord_S → Option (line_bit__line_superWord_S ⊕ Int)
  | .L0 v0 v8 v9 => line_bit__line_superWord_L0 v0 v8 v9
def line_bit__line_superWord_0 (a0 : (List UInt8)) (a1 : Int) : Option (line_bit__line_superWord_S ⊕ Int) :=
  some (.inl (.L0 a0 a1 0))
noncomputable def line_bit__line_superWord (a0 : (List UInt8)) (a1 : Int) : Option Int := (line_bit__line_superWord_0 a0 a1).bind (endO line_bit__line_superWord_step)
inductive line_bit__line_typeWord_S where
  | L0 (v0 : (List UInt8)) (v8 : Int) (v9 : Int)
def line_bit__line_typeWord_L0 (v0 : (List UInt8)) (v8 : Int) (v9 : Int) : Option (line_bit__line_typeWord_S ⊕ Int) :=
  bif decide (v9 < v8) then
    Option.bind (line_typeWord v9) fun x2 =>
      bif (!(x2 == v0)) then
        some (.inl (.L0 v0 v8 (IntKind.wrap .i64 (v9 + 1))))
      else
        Option.bind (ok? (decide (¬ v9 < 0))) fun x5 =>
          some (.inr (shlI .i64 1 v9))
  else
    some (.inr 0)
def line_bit__line_typeWord_step : line_bit__line_typeWord_S → Option (line_bit__line_typeWord_S ⊕ Int)
  | .L0 v0 v8 v9 => line_bit__line_typeWord_L0 v0 v8 v9
def line_bit__line_typeWord_0 (a0 : (List UInt8)) (a1 : Int) : Option (line_bit__line_typeWord_S ⊕ Int) :=
  some (.inl (.L0 a0 a1 0))
noncomputable def line_bit__line_typeWord (a0 : (List UInt8)) (a1 : Int) : Option Int := (line_bit__line_typeWord_0 a0 a1).bind (endO line_bit__line_typeWord_step)
abbrev line_IsSub_S := Empty
def line_IsSub_step : line_IsSub_S → Option (line_IsSub_S ⊕ Bool) := fun s => nomatch s
def line_IsSub_0 (a0 : (List UInt8)) : Option (line_IsSub_S ⊕ Bool) :=
  Option.bind (word_Is a0) fun x1 =>
    bif x1 then
      Option.bind (line_bit__line_superWord a0 2) fun x4 =>
        bif (x4 == 0) then
          Option.bind (line_bit__line_typeWord a0 6) fun x7 =>
            some (.inr (x7 == 0))
        else
          some (.inr false)
    else
      some (.inr false)
noncomputable def line_IsSub (a0 : (List UInt8)) : Option Bool := (line_IsSub_0 a0).bind (endO line_IsSub_step)
abbrev filter_bounded_S := Empty
def filter_bounded_step : filter_bounded_S → Option (filter_bounded_S ⊕ Bool) := fun s => nomatch s
def filter_bounded_0 (a0 : api_Bound) : Option (filter_bounded_S ⊕ Bool) :=
  Option.bind (filter_between a0.Kind 3) fun x1 =>
    bif x1 then
      Option.bind (filter_between a0.N 1000000) fun x4 =>
        bif x4 then
          bif (a0.Kind != 0) then
            some (.inr true)
          else
            some (.inr (a0.N == 0))
        else
          some (.inr false)
    else
      some (.inr false)
noncomputable def filter_bounded (a0 : api_Bound) : Option Bool := (filter_bounded_0 a0).bind (endO filter_bounded_step)
inductive filter_Is_S where
  | L0 (b30000000 : api_Filter)
def filter_Is_L0 (b30000000 : api_Filter) : Option (filter_Is_S ⊕ Bool) :=
  Option.bind (filter_bounded b30000000.Power) fun x34 =>
    bif x34 then
      Option.bind (filter_bounded b30000000.Tough) fun x37 =>
        bif x37 then
          Option.bind (filter_bounded b30000000.Value) fun x40 =>
            some (.inr x40)
        else
          some (.inr false)
    else
      some (.inr false)
def filter_Is_step : filter_Is_S → Option (filter_Is_S ⊕ Bool)
  | .L0 b30000000 => filter_Is_L0 b30000000
def filter_Is_0 (a0 : api_Filter) : Option (filter_Is_S ⊕ Bool) :=
  Option.bind (filter_between a0.Zone 5) fun x1 =>
    bif (!x1) then
      some (.inr false)
    else
      Option.bind (filter_between a0.Who 2) fun x4 =>
        bif (!x4) then
          some (.inr false)
        else
          Option.bind (filter_between a0.Self 2) fun x7 =>
            bif (!x7) then
              some (.inr false)
            else
              Option.bind (filter_between a0.Tap 2) fun x10 =>
                bif (!x10) then
                  some (.inr false)
                else
                  Option.bind (filter_between a0.Keys 131071) fun x13 =>
                    bif (!x13) then
                      some (.inr false)
                    else
                      Option.bind (filter_between a0.Types 63) fun x16 =>
                        bif (!x16) then
                          some (.inr false)
                        else
                          Option.bind (filter_between a0.NotTypes 63) fun x19 =>
                            bif (!x19) then
                              some (.inr false)
                            else
                              bif ((bitOp .and .i64 a0.Types a0.NotTypes) != 0) then
                                some (.inr false)
                              else
                                Option.bind (filter_between a0.Colors 31) fun x23 =>
                                  bif (!x23) then
                                    some (.inr false)
                                  else
                                    Option.bind (filter_between a0.NotColors 31) fun x26 =>
                                      bif (!x26) then
                                        some (.inr false)
                                      else
                                        bif ((bitOp .and .i64 a0.Colors a0.NotColors) != 0) then
                                          some (.inr false)
                                        else
                                          bif (!(a0.Sub == ([] : List UInt8))) then
                                            Option.bind (line_IsSub a0.Sub) fun x31 =>
                                              bif (!x31) then
                                                some (.inr false)
                                              else
                                                filter_Is_L0 a0
                                          else
                                            filter_Is_L0 a0
noncomputable def filter_Is (a0 : api_Filter) : Option Bool := (filter_Is_0 a0).bind (endO filter_Is_step)
abbrev match_Object_1_S := Empty
def match_Object_1_step : match_Object_1_S → Option (match_Object_1_S ⊕ Bool) := fun s => nomatch s
def match_Object_1_0 (a0 : Int) (a1 : Int) (a2 : Int) : Option (match_Object_1_S ⊕ Bool) :=
  bif (a1 == 0) then
    some (.inr ((bitOp .and .i64 a0 a2) == 0))
  else
    bif ((bitOp .and .i64 a0 a1) != 0) then
      some (.inr ((bitOp .and .i64 a0 a2) == 0))
    else
      some (.inr false)
noncomputable def match_Object_1 (a0 : Int) (a1 : Int) (a2 : Int) : Option Bool := (match_Object_1_0 a0 a1 a2).bind (endO match_Object_1_step)
abbrev num_Meets_S := Empty
def num_Meets_step : num_Meets_S → Option (num_Meets_S ⊕ Bool) := fun s => nomatch s
def num_Meets_0 (a0 : api_Bound) (a1 : Int) : Option (num_Meets_S ⊕ Bool) :=
  bif (a0.Kind == 0) then
    some (.inr true)
  else
    bif (a0.Kind == 1) then
      some (.inr (decide (a1 ≥ a0.N)))
    else
      bif (a0.Kind == 2) then
        some (.inr (decide (a1 ≤ a0.N)))
      else
        bif (a0.Kind == 3) then
          some (.inr (a1 == a0.N))
        else
          some (.inr false)
noncomputable def num_Meets (a0 : api_Bound) (a1 : Int) : Option Bool := (num_Meets_0 a0 a1).bind (endO num_Meets_step)
inductive slices_Index___string_string__S where
  | L0 (v0 : (List (List UInt8))) (v1 : (List UInt8)) (v7 : Int) (v8 : Int)
def slices_Index___string_string__L0 (v0 : (List (List UInt8))) (v1 : (List UInt8)) (v7 : Int) (v8 : Int) : Option (slices_Index___string_string__S ⊕ Int) :=
  bif decide (v8 < v7) then
    Option.bind (idx? v0 v8) fun x2 =>
      bif (v1 == x2) then
        some (.inr v8)
      else
        some (.inl (.L0 v0 v1 v7 (IntKind.wrap .i64 (v8 + 1))))
  else
    some (.inr (-1))
def slices_Index___string_string__step : slices_Index___string_string__S → Option (slices_Index___string_string__S ⊕ Int)
  | .L0 v0 v1 v7 v8 => slices_Index___string_string__L0 v0 v1 v7 v8
def slices_Index___string_string__0 (a0 : (List (List UInt8))) (a1 : (List UInt8)) : Option (slices_Index___string_string__S ⊕ Int) :=
  some (.inl (.L0 a0 a1 (a0.length : Int) 0))
noncomputable def slices_Index___string_string_ (a0 : (List (List UInt8))) (a1 : (List UInt8)) : Option Int := (slices_Index___string_string__0 a0 a1).bind (endO slices_Index___string_string__step)
abbrev slices_Contains___string_string__S := Empty
def slices_Contains___string_string__step : slices_Contains___string_string__S → Option (slices_Contains___string_string__S ⊕ Bool) := fun s => nomatch s
def slices_Contains___string_string__0 (a0 : (List (List UInt8))) (a1 : (List UInt8)) : Option (slices_Contains___string_string__S ⊕ Bool) :=
  Option.bind (slices_Index___string_string_ a0 a1) fun x1 =>
    some (.inr (decide (x1 ≥ 0)))
noncomputable def slices_Contains___string_string_ (a0 : (List (List UInt8))) (a1 : (List UInt8)) : Option Bool := (slices_Contains___string_string__0 a0 a1).bind (endO slices_Contains___string_string__step)
abbrev line_HasSub_S := Empty
def line_HasSub_step : line_HasSub_S → Option (line_HasSub_S ⊕ Bool) := fun s => nomatch s
def line_HasSub_0 (a0 : api_Line) (a1 : (List UInt8)) : Option (line_HasSub_S ⊕ Bool) :=
  Option.bind (slices_Contains___string_string_ a0.Subs a1) fun x1 =>
    some (.inr x1)
noncomputable def line_HasSub (a0 : api_Line) (a1 : (List UInt8)) : Option Bool := (line_HasSub_0 a0 a1).bind (endO line_HasSub_step)
abbrev keyword_Has_S := Empty
def keyword_Has_step : keyword_Has_S → Option (keyword_Has_S ⊕ Bool) := fun s => nomatch s
def keyword_Has_0 (a0 : Int) (a1 : Int) : Option (keyword_Has_S ⊕ Bool) :=
  some (.inr ((bitOp .and .i64 a0 a1) == a1))
noncomputable def keyword_Has (a0 : Int) (a1 : Int) : Option Bool := (keyword_Has_0 a0 a1).bind (endO keyword_Has_step)
inductive mana_Is_S where
  | L0 (b30000000 : api_Cost) (v6 : (A5 Int)) (v7 : Int)
def mana_Is_L0 (b30000000 : api_Cost) (v6 : (A5 Int)) (v7 : Int) : Option (mana_Is_S ⊕ Bool) :=
  bif decide (v7 < 5) then
    Option.bind (idx? (A5.list v6) v7) fun x2 =>
      bif decide (x2 < 0) then
        some (.inr false)
      else
        bif decide (x2 > 9) then
          some (.inr false)
        else
          some (.inl (.L0 b30000000 v6 (IntKind.wrap .i64 (v7 + 1))))
  else
    bif decide (b30000000.Generic ≥ 0) then
      bif decide (b30000000.Generic ≤ 99) then
        bif decide (b30000000.X ≥ 0) then
          some (.inr (decide (b30000000.X ≤ 2)))
        else
          some (.inr false)
      else
        some (.inr false)
    else
      some (.inr false)
def mana_Is_step : mana_Is_S → Option (mana_Is_S ⊕ Bool)
  | .L0 b30000000 v6 v7 => mana_Is_L0 b30000000 v6 v7
def mana_Is_0 (a0 : api_Cost) : Option (mana_Is_S ⊕ Bool) :=
  some (.inl (.L0 a0 a0.Color 0))
noncomputable def mana_Is (a0 : api_Cost) : Option Bool := (mana_Is_0 a0).bind (endO mana_Is_step)
abbrev num_Clamp_S := Empty
def num_Clamp_step : num_Clamp_S → Option (num_Clamp_S ⊕ Int) := fun s => nomatch s
def num_Clamp_0 (a0 : Int) : Option (num_Clamp_S ⊕ Int) :=
  some (.inr (minI (maxI a0 (-1000000)) 1000000))
noncomputable def num_Clamp (a0 : Int) : Option Int := (num_Clamp_0 a0).bind (endO num_Clamp_step)
abbrev num_Mul_S := Empty
def num_Mul_step : num_Mul_S → Option (num_Mul_S ⊕ Int) := fun s => nomatch s
def num_Mul_0 (a0 : Int) (a1 : Int) : Option (num_Mul_S ⊕ Int) :=
  Option.bind (num_Clamp a0) fun x1 =>
    Option.bind (num_Clamp a1) fun x3 =>
      Option.bind (num_Clamp (IntKind.wrap .i64 (x1 * x3))) fun x5 =>
        some (.inr x5)
noncomputable def num_Mul (a0 : Int) (a1 : Int) : Option Int := (num_Mul_0 a0 a1).bind (endO num_Mul_step)
abbrev num_Add_S := Empty
def num_Add_step : num_Add_S → Option (num_Add_S ⊕ Int) := fun s => nomatch s
def num_Add_0 (a0 : Int) (a1 : Int) : Option (num_Add_S ⊕ Int) :=
  Option.bind (num_Clamp a0) fun x1 =>
    Option.bind (num_Clamp a1) fun x3 =>
      Option.bind (num_Clamp (IntKind.wrap .i64 (x1 + x3))) fun x5 =>
        some (.inr x5)
noncomputable def num_Add (a0 : Int) (a1 : Int) : Option Int := (num_Add_0 a0 a1).bind (endO num_Add_step)
inductive mana_Value_S where
  | L0 (v1 : Int) (b30000000 : api_Cost) (v5 : Int) (v14 : (A5 Int)) (v15 : Int)
def mana_Value_L0 (v1 : Int) (b30000000 : api_Cost) (v5 : Int) (v14 : (A5 Int)) (v15 : Int) : Option (mana_Value_S ⊕ Int) :=
  bif decide (v15 < 5) then
    Option.bind (idx? (A5.list v14) v15) fun x5 =>
      some (.inl (.L0 v1 b30000000 (IntKind.wrap .i64 (v5 + x5)) v14 (IntKind.wrap .i64 (v15 + 1))))
  else
    Option.bind (num_Mul b30000000.X (maxI 0 v1)) fun x7 =>
      Option.bind (num_Add v5 x7) fun x9 =>
        some (.inr x9)
def mana_Value_step : mana_Value_S → Option (mana_Value_S ⊕ Int)
  | .L0 v1 b30000000 v5 v14 v15 => mana_Value_L0 v1 b30000000 v5 v14 v15
def mana_Value_0 (a0 : api_Cost) (a1 : Int) : Option (mana_Value_S ⊕ Int) :=
  Option.bind (mana_Is a0) fun x1 =>
    bif (!x1) then
      some (.inr 0)
    else
      some (.inl (.L0 a1 a0 a0.Generic a0.Color 0))
noncomputable def mana_Value (a0 : api_Cost) (a1 : Int) : Option Int := (mana_Value_0 a0 a1).bind (endO mana_Value_step)
abbrev match_Object_2__box_S := Empty
def match_Object_2__box_step : match_Object_2__box_S → Option (match_Object_2__box_S ⊕ Bool) := fun s => nomatch s
def match_Object_2__box_0 (a0 : api_Bound) (a1 : Int) (b0 : Bool) : Option (match_Object_2__box_S ⊕ Bool) :=
  bif (a0.Kind == 0) then
    some (.inr true)
  else
    bif b0 then
      Option.bind (num_Meets a0 a1) fun x3 =>
        some (.inr x3)
    else
      some (.inr false)
noncomputable def match_Object_2__box (a0 : api_Bound) (a1 : Int) (b0 : Bool) : Option Bool := (match_Object_2__box_0 a0 a1 b0).bind (endO match_Object_2__box_step)
inductive match_Object_S where
  | L0 (v3 : Int) (b30000000 : api_Object) (b30000001 : api_Traits) (b30000002 : api_Filter) (b30000003 : Bool) (v30 : Bool)
  | L1 (b30000000 : api_Object) (b30000001 : api_Traits) (b30000002 : api_Filter) (b30000003 : Bool) (v49 : Bool)
  | L2 (b30000000 : api_Object) (b30000001 : api_Traits) (b30000002 : api_Filter) (b30000003 : Bool) (v68 : Bool)
  | L3 (b30000000 : api_Object) (b30000001 : api_Traits) (b30000002 : api_Filter) (b30000003 : Bool) (v88 : Bool)
  | L4 (b30000000 : api_Traits) (b30000001 : api_Filter) (b30000002 : Bool)
def match_Object_L4 (b30000000 : api_Traits) (b30000001 : api_Filter) (b30000002 : Bool) : Option (match_Object_S ⊕ Bool) :=
    Option.bind (match_Object_2__box b30000001.Power b30000000.Power b30000002) fun x36 =>
      bif x36 then
        Option.bind (match_Object_2__box b30000001.Tough b30000000.Tough b30000002) fun x39 =>
          bif x39 then
            Option.bind (mana_Value b30000000.Cost 0) fun x42 =>
              Option.bind (num_Meets b30000001.Value x42) fun x44 =>
                some (.inr x44)
          else
            some (.inr false)
      else
        some (.inr false)
def match_Object_L3 (b30000000 : api_Object) (b30000001 : api_Traits) (b30000002 : api_Filter) (b30000003 : Bool) (v88 : Bool) : Option (match_Object_S ⊕ Bool) :=
  bif v88 then
    some (.inr false)
  else
    bif (b30000002.Tap == 1) then
      bif (!b30000000.Tapped) then
        some (.inr false)
      else
        bif (b30000002.Tap == 2) then
          bif b30000000.Tapped then
            some (.inr false)
          else
            match_Object_L4 b30000001 b30000002 b30000003
        else
          match_Object_L4 b30000001 b30000002 b30000003
    else
      bif (b30000002.Tap == 2) then
        bif b30000000.Tapped then
          some (.inr false)
        else
          match_Object_L4 b30000001 b30000002 b30000003
      else
        match_Object_L4 b30000001 b30000002 b30000003
def match_Object_L2 (b30000000 : api_Object) (b30000001 : api_Traits) (b30000002 : api_Filter) (b30000003 : Bool) (v68 : Bool) : Option (match_Object_S ⊕ Bool) :=
  bif v68 then
    some (.inr false)
  else
    bif (!(b30000002.Sub == ([] : List UInt8))) then
      Option.bind (line_HasSub b30000001.Line b30000002.Sub) fun x22 =>
        bif (!x22) then
          match_Object_L3 b30000000 b30000001 b30000002 b30000003 (!x22)
        else
          Option.bind (keyword_Has b30000001.Keys b30000002.Keys) fun x25 =>
            match_Object_L3 b30000000 b30000001 b30000002 b30000003 (!x25)
    else
      Option.bind (keyword_Has b30000001.Keys b30000002.Keys) fun x27 =>
        match_Object_L3 b30000000 b30000001 b30000002 b30000003 (!x27)
def match_Object_L1 (b30000000 : api_Object) (b30000001 : api_Traits) (b30000002 : api_Filter) (b30000003 : Bool) (v49 : Bool) : Option (match_Object_S ⊕ Bool) :=
  bif v49 then
    some (.inr false)
  else
    Option.bind (match_Object_1 b30000001.Line.Types b30000002.Types b30000002.NotTypes) fun x15 =>
      bif (!x15) then
        match_Object_L2 b30000000 b30000001 b30000002 b30000003 (!x15)
      else
        Option.bind (match_Object_1 b30000001.Colors b30000002.Colors b30000002.NotColors) fun x18 =>
          match_Object_L2 b30000000 b30000001 b30000002 b30000003 (!x18)
def match_Object_L0 (v3 : Int) (b30000000 : api_Object) (b30000001 : api_Traits) (b30000002 : api_Filter) (b30000003 : Bool) (v30 : Bool) : Option (match_Object_S ⊕ Bool) :=
  bif v30 then
    some (.inr false)
  else
    bif (b30000002.Self == 1) then
      bif (b30000000.Id != v3) then
        match_Object_L1 b30000000 b30000001 b30000002 b30000003 (b30000000.Id != v3)
      else
        bif (b30000002.Self == 2) then
          match_Object_L1 b30000000 b30000001 b30000002 b30000003 (b30000000.Id == v3)
        else
          match_Object_L1 b30000000 b30000001 b30000002 b30000003 false
    else
      bif (b30000002.Self == 2) then
        match_Object_L1 b30000000 b30000001 b30000002 b30000003 (b30000000.Id == v3)
      else
        match_Object_L1 b30000000 b30000001 b30000002 b30000003 false
def match_Object_step : match_Object_S → Option (match_Object_S ⊕ Bool)
  | .L0 v3 b30000000 b30000001 b30000002 b30000003 v30 => match_Object_L0 v3 b30000000 b30000001 b30000002 b30000003 v30
  | .L1 b30000000 b30000001 b30000002 b30000003 v49 => match_Object_L1 b30000000 b30000001 b30000002 b30000003 v49
  | .L2 b30000000 b30000001 b30000002 b30000003 v68 => match_Object_L2 b30000000 b30000001 b30000002 b30000003 v68
  | .L3 b30000000 b30000001 b30000002 b30000003 v88 => match_Object_L3 b30000000 b30000001 b30000002 b30000003 v88
  | .L4 b30000000 b30000001 b30000002 => match_Object_L4 b30000000 b30000001 b30000002
def match_Object_0 (a0 : api_Object) (a1 : api_Traits) (a2 : Int) (a3 : Int) (a4 : api_Filter) : Option (match_Object_S ⊕ Bool) :=
  Option.bind (filter_Is a4) fun x1 =>
    bif (!x1) then
      some (.inr false)
    else
      bif (a0.Zone != a4.Zone) then
        some (.inr false)
      else
        bif (a4.Who == 1) then
          bif (a1.Control != a2) then
            match_Object_L0 a3 a0 a1 a4 ((bitOp .and .i64 a1.Line.Types 1) != 0) (a1.Control != a2)
          else
            bif (a4.Who == 2) then
              match_Object_L0 a3 a0 a1 a4 ((bitOp .and .i64 a1.Line.Types 1) != 0) (a1.Control == a2)
            else
              match_Object_L0 a3 a0 a1 a4 ((bitOp .and .i64 a1.Line.Types 1) != 0) false
        else
          bif (a4.Who == 2) then
            match_Object_L0 a3 a0 a1 a4 ((bitOp .and .i64 a1.Line.Types 1) != 0) (a1.Control == a2)
          else
            match_Object_L0 a3 a0 a1 a4 ((bitOp .and .i64 a1.Line.Types 1) != 0) false
noncomputable def match_Object (a0 : api_Object) (a1 : api_Traits) (a2 : Int) (a3 : Int) (a4 : api_Filter) : Option Bool := (match_Object_0 a0 a1 a2 a3 a4).bind (endO match_Object_step)
abbrev L29_alive_S := Empty
def L29_alive_step : L29_alive_S → Option (L29_alive_S ⊕ Bool) := fun s => nomatch s
def L29_alive_0 : Option (L29_alive_S ⊕ Bool) :=
  Option.bind (match_Object (⟨1, 0, 0, 0, 0, false, true, false, false, 0, (⟨0, 0, 0⟩ : (A3 Int)), 0, 0, 0, false, 0, 0⟩ : api_Object) (⟨([] : List UInt8), (⟨0, 0, (⟨0, 0, 0, 0, 0⟩ : (A5 Int))⟩ : api_Cost), 0, (⟨0, 1, ([] : (List (List UInt8)))⟩ : api_Line), 2, 0, 0, ([] : (List api_Ability)), 0⟩ : api_Traits) 0 1 (⟨0, 0, 0, 1, 0, 0, 0, ([] : List UInt8), 0, 1, (⟨0, 0⟩ : api_Bound), (⟨0, 0⟩ : api_Bound), (⟨0, 0⟩ : api_Bound)⟩ : api_Filter)) fun x1 =>
    bif x1 then
      Option.bind (match_Object (⟨1, 0, 0, 0, 0, false, true, false, false, 0, (⟨0, 0, 0⟩ : (A3 Int)), 0, 0, 0, false, 0, 0⟩ : api_Object) (⟨([] : List UInt8), (⟨0, 0, (⟨0, 0, 0, 0, 0⟩ : (A5 Int))⟩ : api_Cost), 0, (⟨0, 1, ([] : (List (List UInt8)))⟩ : api_Line), 2, 0, 0, ([] : (List api_Ability)), 0⟩ : api_Traits) 0 1 (⟨0, 0, 0, 1, 0, 0, 0, ([] : List UInt8), 0, 2, (⟨0, 0⟩ : api_Bound), (⟨0, 0⟩ : api_Bound), (⟨0, 0⟩ : api_Bound)⟩ : api_Filter)) fun x4 =>
        bif (!x4) then
          Option.bind (match_Object (⟨1, 0, 0, 0, 0, false, true, false, false, 0, (⟨0, 0, 0⟩ : (A3 Int)), 0, 0, 0, false, 0, 0⟩ : api_Object) (⟨([] : List UInt8), (⟨0, 0, (⟨0, 0, 0, 0, 0⟩ : (A5 Int))⟩ : api_Cost), 0, (⟨0, 1, ([] : (List (List UInt8)))⟩ : api_Line), 2, 0, 0, ([] : (List api_Ability)), 0⟩ : api_Traits) 0 1 (⟨0, 0, 0, 0, 0, 0, 0, ([] : List UInt8), 0, 0, (⟨1, 2⟩ : api_Bound), (⟨0, 0⟩ : api_Bound), (⟨0, 0⟩ : api_Bound)⟩ : api_Filter)) fun x7 =>
            bif x7 then
              Option.bind (match_Object (⟨1, 0, 0, 0, 0, false, true, false, false, 0, (⟨0, 0, 0⟩ : (A3 Int)), 0, 0, 0, false, 0, 0⟩ : api_Object) (⟨([] : List UInt8), (⟨0, 0, (⟨0, 0, 0, 0, 0⟩ : (A5 Int))⟩ : api_Cost), 0, (⟨0, 0, ([] : (List (List UInt8)))⟩ : api_Line), 2, 0, 0, ([] : (List api_Ability)), 0⟩ : api_Traits) 0 1 (⟨0, 0, 0, 0, 0, 0, 0, ([] : List UInt8), 0, 0, (⟨1, 2⟩ : api_Bound), (⟨0, 0⟩ : api_Bound), (⟨0, 0⟩ : api_Bound)⟩ : api_Filter)) fun x10 =>
                some (.inr (!x10))
            else
              some (.inr false)
        else
          some (.inr false)
    else
      some (.inr false)
noncomputable def L29_alive : Option Bool := (L29_alive_0).bind (endO L29_alive_step)
inductive R13_apart_S where
  | L0 (v0 : Int) (v1 : Int) (v7 : Int)
def R13_apart_L0 (v0 : Int) (v1 : Int) (v7 : Int) : Option (R13_apart_S ⊕ Bool) :=
  bif decide (v7 < 6) then
    bif ((Int.tmod v0 2) == 1) then
      bif ((Int.tmod v1 2) == 1) then
        some (.inr false)
      else
        some (.inl (.L0 (quoI .i64 v0 2) (quoI .i64 v1 2) (IntKind.wrap .i64 (v7 + 1))))
    else
      some (.inl (.L0 (quoI .i64 v0 2) (quoI .i64 v1 2) (IntKind.wrap .i64 (v7 + 1))))
  else
    some (.inr true)
def R13_apart_step : R13_apart_S → Option (R13_apart_S ⊕ Bool)
  | .L0 v0 v1 v7 => R13_apart_L0 v0 v1 v7
def R13_apart_0 (a0 : Int) (a1 : Int) (a2 : Int) : Option (R13_apart_S ⊕ Bool) :=
  bif decide (a0 < 0) then
    some (.inr false)
  else
    bif decide (a0 > a2) then
      some (.inr false)
    else
      bif decide (a1 < 0) then
        some (.inr false)
      else
        bif decide (a1 > a2) then
          some (.inr false)
        else
          some (.inl (.L0 a0 a1 0))
noncomputable def R13_apart (a0 : Int) (a1 : Int) (a2 : Int) : Option Bool := (R13_apart_0 a0 a1 a2).bind (endO R13_apart_step)
abbrev R02_low_S := Empty
def R02_low_step : R02_low_S → Option (R02_low_S ⊕ Bool) := fun s => nomatch s
def R02_low_0 (a0 : Int) : Option (R02_low_S ⊕ Bool) :=
  bif decide (a0 ≥ 97) then
    some (.inr (decide (a0 ≤ 122)))
  else
    some (.inr false)
noncomputable def R02_low (a0 : Int) : Option Bool := (R02_low_0 a0).bind (endO R02_low_step)
inductive R02_Is_S where
  | L0 (v0 : (List UInt8)) (v3 : Int)
  | L1 (v0 : (List UInt8)) (v3 : Int)
def R02_Is_L1 (v0 : (List UInt8)) (v3 : Int) : Option (R02_Is_S ⊕ Bool) :=
  bif decide (v3 > 0) then
    Option.bind (idx? v0 v3) fun x30 =>
      bif ((UInt8.toNat x30 : Int) == 45) then
        Option.bind (idx? v0 (IntKind.wrap .i64 (v3 - 1))) fun x33 =>
          bif ((UInt8.toNat x33 : Int) == 45) then
            some (.inr false)
          else
            some (.inl (.L0 v0 (IntKind.wrap .i64 (v3 + 1))))
      else
        some (.inl (.L0 v0 (IntKind.wrap .i64 (v3 + 1))))
  else
    some (.inl (.L0 v0 (IntKind.wrap .i64 (v3 + 1))))
def R02_Is_L0 (v0 : (List UInt8)) (v3 : Int) : Option (R02_Is_S ⊕ Bool) :=
  bif decide (v3 < (v0.length : Int)) then
    Option.bind (idx? v0 v3) fun x12 =>
      Option.bind (R02_low (UInt8.toNat x12 : Int)) fun x14 =>
        bif (!x14) then
          Option.bind (idx? v0 v3) fun x17 =>
            bif decide ((UInt8.toNat x17 : Int) < 48) then
              Option.bind (idx? v0 v3) fun x20 =>
                bif ((UInt8.toNat x20 : Int) != 45) then
                  some (.inr false)
                else
                  R02_Is_L1 v0 v3
            else
              Option.bind (idx? v0 v3) fun x23 =>
                bif decide ((UInt8.toNat x23 : Int) > 57) then
                  Option.bind (idx? v0 v3) fun x26 =>
                    bif ((UInt8.toNat x26 : Int) != 45) then
                      some (.inr false)
                    else
                      R02_Is_L1 v0 v3
                else
                  R02_Is_L1 v0 v3
        else
          R02_Is_L1 v0 v3
  else
    some (.inr true)
def R02_Is_step : R02_Is_S → Option (R02_Is_S ⊕ Bool)
  | .L0 v0 v3 => R02_Is_L0 v0 v3
  | .L1 v0 v3 => R02_Is_L1 v0 v3
def R02_Is_0 (a0 : (List UInt8)) : Option (R02_Is_S ⊕ Bool) :=
  bif decide ((a0.length : Int) < 1) then
    some (.inr false)
  else
    bif decide ((a0.length : Int) > 32) then
      some (.inr false)
    else
      Option.bind (idx? a0 0) fun x3 =>
        Option.bind (R02_low (UInt8.toNat x3 : Int)) fun x5 =>
          bif (!x5) then
            some (.inr false)
          else
            Option.bind (idx? a0 (IntKind.wrap .i64 ((a0.length : Int) - 1))) fun x8 =>
              bif ((UInt8.toNat x8 : Int) == 45) then
                some (.inr false)
              else
                some (.inl (.L0 a0 0))
noncomputable def R02_Is (a0 : (List UInt8)) : Option Bool := (R02_Is_0 a0).bind (endO R02_Is_step)
abbrev R10_superWords_S := Empty
def R10_superWords_step : R10_superWords_S → Option (R10_superWords_S ⊕ (List (List UInt8))) := fun s => nomatch s
def R10_superWords_0 : Option (R10_superWords_S ⊕ (List (List UInt8))) :=
  some (.inr [([98, 97, 115, 105, 99] : List UInt8), ([117, 110, 105, 113, 117, 101] : List UInt8)])
noncomputable def R10_superWords : Option (List (List UInt8)) := (R10_superWords_0).bind (endO R10_superWords_step)
inductive R10_index_S where
  | L0 (v0 : (List (List UInt8))) (v1 : (List UInt8)) (v5 : Int)
def R10_index_L0 (v0 : (List (List UInt8))) (v1 : (List UInt8)) (v5 : Int) : Option (R10_index_S ⊕ Int) :=
  bif decide (v5 < (v0.length : Int)) then
    Option.bind (idx? v0 v5) fun x2 =>
      bif (x2 == v1) then
        some (.inr v5)
      else
        some (.inl (.L0 v0 v1 (IntKind.wrap .i64 (v5 + 1))))
  else
    some (.inr (-1))
def R10_index_step : R10_index_S → Option (R10_index_S ⊕ Int)
  | .L0 v0 v1 v5 => R10_index_L0 v0 v1 v5
def R10_index_0 (a0 : (List (List UInt8))) (a1 : (List UInt8)) : Option (R10_index_S ⊕ Int) :=
  some (.inl (.L0 a0 a1 0))
noncomputable def R10_index (a0 : (List (List UInt8))) (a1 : (List UInt8)) : Option Int := (R10_index_0 a0 a1).bind (endO R10_index_step)
abbrev R10_typeWords_S := Empty
def R10_typeWords_step : R10_typeWords_S → Option (R10_typeWords_S ⊕ (List (List UInt8))) := fun s => nomatch s
def R10_typeWords_0 : Option (R10_typeWords_S ⊕ (List (List UInt8))) :=
  some (.inr [([99, 114, 101, 97, 116, 117, 114, 101] : List UInt8), ([105, 110, 115, 116, 97, 110, 116] : List UInt8), ([114, 105, 116, 117, 97, 108] : List UInt8), ([114, 101, 108, 105, 99] : List UInt8), ([99, 104, 97, 114, 109] : List UInt8), ([108, 97, 110, 100] : List UInt8)])
noncomputable def R10_typeWords : Option (List (List UInt8)) := (R10_typeWords_0).bind (endO R10_typeWords_step)
abbrev R10_IsSub_S := Empty
def R10_IsSub_step : R10_IsSub_S → Option (R10_IsSub_S ⊕ Bool) := fun s => nomatch s
def R10_IsSub_0 (a0 : (List UInt8)) : Option (R10_IsSub_S ⊕ Bool) :=
  Option.bind (R02_Is a0) fun x1 =>
    bif x1 then
      Option.bind (R10_superWords) fun x4 =>
        Option.bind (R10_index x4 a0) fun x6 =>
          bif decide (x6 < 0) then
            Option.bind (R10_typeWords) fun x9 =>
              Option.bind (R10_index x9 a0) fun x11 =>
                some (.inr (decide (x11 < 0)))
          else
            some (.inr false)
    else
      some (.inr false)
noncomputable def R10_IsSub (a0 : (List UInt8)) : Option Bool := (R10_IsSub_0 a0).bind (endO R10_IsSub_step)
abbrev R13_bound_S := Empty
def R13_bound_step : R13_bound_S → Option (R13_bound_S ⊕ Bool) := fun s => nomatch s
def R13_bound_0 (a0 : api_Bound) : Option (R13_bound_S ⊕ Bool) :=
  bif decide (a0.Kind < 0) then
    some (.inr false)
  else
    bif decide (a0.Kind > 3) then
      some (.inr false)
    else
      bif decide (a0.N < 0) then
        some (.inr false)
      else
        bif decide (a0.N > 1000000) then
          some (.inr false)
        else
          bif (a0.Kind != 0) then
            some (.inr true)
          else
            some (.inr (a0.N == 0))
noncomputable def R13_bound (a0 : api_Bound) : Option Bool := (R13_bound_0 a0).bind (endO R13_bound_step)
inductive R13_Is_S where
  | L0 (b30000000 : api_Filter)
def R13_Is_L0 (b30000000 : api_Filter) : Option (R13_Is_S ⊕ Bool) :=
  Option.bind (R13_bound b30000000.Power) fun x23 =>
    bif x23 then
      Option.bind (R13_bound b30000000.Tough) fun x26 =>
        bif x26 then
          Option.bind (R13_bound b30000000.Value) fun x29 =>
            some (.inr x29)
        else
          some (.inr false)
    else
      some (.inr false)
def R13_Is_step : R13_Is_S → Option (R13_Is_S ⊕ Bool)
  | .L0 b30000000 => R13_Is_L0 b30000000
def R13_Is_0 (a0 : api_Filter) : Option (R13_Is_S ⊕ Bool) :=
  bif decide (a0.Zone < 0) then
    some (.inr false)
  else
    bif decide (a0.Zone > 5) then
      some (.inr false)
    else
      bif decide (a0.Who < 0) then
        some (.inr false)
      else
        bif decide (a0.Who > 2) then
          some (.inr false)
        else
          bif decide (a0.Self < 0) then
            some (.inr false)
          else
            bif decide (a0.Self > 2) then
              some (.inr false)
            else
              bif decide (a0.Tap < 0) then
                some (.inr false)
              else
                bif decide (a0.Tap > 2) then
                  some (.inr false)
                else
                  Option.bind (R13_apart a0.Types a0.NotTypes 63) fun x9 =>
                    bif (!x9) then
                      some (.inr false)
                    else
                      Option.bind (R13_apart a0.Colors a0.NotColors 31) fun x12 =>
                        bif (!x12) then
                          some (.inr false)
                        else
                          bif (!(a0.Sub == ([] : List UInt8))) then
                            Option.bind (R10_IsSub a0.Sub) fun x16 =>
                              bif (!x16) then
                                some (.inr false)
                              else
                                bif decide (a0.Keys < 0) then
                                  some (.inr false)
                                else
                                  bif decide (a0.Keys > 131071) then
                                    some (.inr false)
                                  else
                                    R13_Is_L0 a0
                          else
                            bif decide (a0.Keys < 0) then
                              some (.inr false)
                            else
                              bif decide (a0.Keys > 131071) then
                                some (.inr false)
                              else
                                R13_Is_L0 a0
noncomputable def R13_Is (a0 : api_Filter) : Option Bool := (R13_Is_0 a0).bind (endO R13_Is_step)
abbrev R29_who_S := Empty
def R29_who_step : R29_who_S → Option (R29_who_S ⊕ Bool) := fun s => nomatch s
def R29_who_0 (a0 : Int) (a1 : Int) (a2 : Int) : Option (R29_who_S ⊕ Bool) :=
  bif (a2 == 1) then
    some (.inr (a0 == a1))
  else
    bif (a2 != 2) then
      some (.inr true)
    else
      some (.inr (a0 != a1))
noncomputable def R29_who (a0 : Int) (a1 : Int) (a2 : Int) : Option Bool := (R29_who_0 a0 a1 a2).bind (endO R29_who_step)
abbrev R29_self_S := Empty
def R29_self_step : R29_self_S → Option (R29_self_S ⊕ Bool) := fun s => nomatch s
def R29_self_0 (a0 : Int) (a1 : Int) (a2 : Int) : Option (R29_self_S ⊕ Bool) :=
  bif (a2 == 1) then
    some (.inr (a0 == a1))
  else
    bif (a2 != 2) then
      some (.inr true)
    else
      some (.inr (a0 != a1))
noncomputable def R29_self (a0 : Int) (a1 : Int) (a2 : Int) : Option Bool := (R29_self_0 a0 a1 a2).bind (endO R29_self_step)
abbrev R29_tap_S := Empty
def R29_tap_step : R29_tap_S → Option (R29_tap_S ⊕ Bool) := fun s => nomatch s
def R29_tap_0 (a0 : Bool) (a1 : Int) : Option (R29_tap_S ⊕ Bool) :=
  bif (a1 == 1) then
    some (.inr a0)
  else
    bif (a1 != 2) then
      some (.inr true)
    else
      some (.inr (!a0))
noncomputable def R29_tap (a0 : Bool) (a1 : Int) : Option Bool := (R29_tap_0 a0 a1).bind (endO R29_tap_step)
abbrev R29_sharing_S := Empty
def R29_sharing_step : R29_sharing_S → Option (R29_sharing_S ⊕ Bool) := fun s => nomatch s
def R29_sharing_0 (a0 : Int) (a1 : Int) : Option (R29_sharing_S ⊕ Bool) :=
  some (.inr ((bitOp .and .i64 a0 a1) != 0))
noncomputable def R29_sharing (a0 : Int) (a1 : Int) : Option Bool := (R29_sharing_0 a0 a1).bind (endO R29_sharing_step)
abbrev R10_HasSub_S := Empty
def R10_HasSub_step : R10_HasSub_S → Option (R10_HasSub_S ⊕ Bool) := fun s => nomatch s
def R10_HasSub_0 (a0 : api_Line) (a1 : (List UInt8)) : Option (R10_HasSub_S ⊕ Bool) :=
  Option.bind (R10_index a0.Subs a1) fun x1 =>
    some (.inr (decide (x1 ≥ 0)))
noncomputable def R10_HasSub (a0 : api_Line) (a1 : (List UInt8)) : Option Bool := (R10_HasSub_0 a0 a1).bind (endO R10_HasSub_step)
abbrev R11_Has_S := Empty
def R11_Has_step : R11_Has_S → Option (R11_Has_S ⊕ Bool) := fun s => nomatch s
def R11_Has_0 (a0 : Int) (a1 : Int) : Option (R11_Has_S ⊕ Bool) :=
  some (.inr ((bitOp .and .i64 a0 a1) == a1))
noncomputable def R11_Has (a0 : Int) (a1 : Int) : Option Bool := (R11_Has_0 a0 a1).bind (endO R11_Has_step)
abbrev R01_Meets_S := Empty
def R01_Meets_step : R01_Meets_S → Option (R01_Meets_S ⊕ Bool) := fun s => nomatch s
def R01_Meets_0 (a0 : api_Bound) (a1 : Int) : Option (R01_Meets_S ⊕ Bool) :=
  bif (a0.Kind == 0) then
    some (.inr true)
  else
    bif (a0.Kind == 1) then
      some (.inr (decide (a1 ≥ a0.N)))
    else
      bif (a0.Kind == 2) then
        some (.inr (decide (a1 ≤ a0.N)))
      else
        bif (a0.Kind == 3) then
          some (.inr (a1 == a0.N))
        else
          some (.inr false)
noncomputable def R01_Meets (a0 : api_Bound) (a1 : Int) : Option Bool := (R01_Meets_0 a0 a1).bind (endO R01_Meets_step)
inductive R08_Is_S where
  | L0 (b30000000 : api_Cost) (v3 : Int)
def R08_Is_L0 (b30000000 : api_Cost) (v3 : Int) : Option (R08_Is_S ⊕ Bool) :=
  bif decide (v3 < 5) then
    Option.bind (idx? (A5.list b30000000.Color) v3) fun x6 =>
      bif decide (x6 < 0) then
        some (.inr false)
      else
        Option.bind (idx? (A5.list b30000000.Color) v3) fun x9 =>
          bif decide (x9 > 9) then
            some (.inr false)
          else
            some (.inl (.L0 b30000000 (IntKind.wrap .i64 (v3 + 1))))
  else
    some (.inr true)
def R08_Is_step : R08_Is_S → Option (R08_Is_S ⊕ Bool)
  | .L0 b30000000 v3 => R08_Is_L0 b30000000 v3
def R08_Is_0 (a0 : api_Cost) : Option (R08_Is_S ⊕ Bool) :=
  bif decide (a0.Generic < 0) then
    some (.inr false)
  else
    bif decide (a0.Generic > 99) then
      some (.inr false)
    else
      bif decide (a0.X < 0) then
        some (.inr false)
      else
        bif decide (a0.X > 2) then
          some (.inr false)
        else
          some (.inl (.L0 a0 0))
noncomputable def R08_Is (a0 : api_Cost) : Option Bool := (R08_Is_0 a0).bind (endO R08_Is_step)
abbrev R01_Clamp_S := Empty
def R01_Clamp_step : R01_Clamp_S → Option (R01_Clamp_S ⊕ Int) := fun s => nomatch s
def R01_Clamp_0 (a0 : Int) : Option (R01_Clamp_S ⊕ Int) :=
  bif decide (a0 > 1000000) then
    some (.inr 1000000)
  else
    bif decide (a0 < (-1000000)) then
      some (.inr (-1000000))
    else
      some (.inr a0)
noncomputable def R01_Clamp (a0 : Int) : Option Int := (R01_Clamp_0 a0).bind (endO R01_Clamp_step)
abbrev R01_Add_S := Empty
def R01_Add_step : R01_Add_S → Option (R01_Add_S ⊕ Int) := fun s => nomatch s
def R01_Add_0 (a0 : Int) (a1 : Int) : Option (R01_Add_S ⊕ Int) :=
  Option.bind (R01_Clamp a0) fun x1 =>
    Option.bind (R01_Clamp a1) fun x3 =>
      Option.bind (R01_Clamp (IntKind.wrap .i64 (x1 + x3))) fun x5 =>
        some (.inr x5)
noncomputable def R01_Add (a0 : Int) (a1 : Int) : Option Int := (R01_Add_0 a0 a1).bind (endO R01_Add_step)
abbrev R01_Mul_S := Empty
def R01_Mul_step : R01_Mul_S → Option (R01_Mul_S ⊕ Int) := fun s => nomatch s
def R01_Mul_0 (a0 : Int) (a1 : Int) : Option (R01_Mul_S ⊕ Int) :=
  Option.bind (R01_Clamp a0) fun x1 =>
    Option.bind (R01_Clamp a1) fun x3 =>
      Option.bind (R01_Clamp (IntKind.wrap .i64 (x1 * x3))) fun x5 =>
        some (.inr x5)
noncomputable def R01_Mul (a0 : Int) (a1 : Int) : Option Int := (R01_Mul_0 a0 a1).bind (endO R01_Mul_step)
inductive R08_Value_S where
  | L0 (v1 : Int) (b30000000 : api_Cost) (v5 : Int) (v6 : Int)
def R08_Value_L0 (v1 : Int) (b30000000 : api_Cost) (v5 : Int) (v6 : Int) : Option (R08_Value_S ⊕ Int) :=
  bif decide (v6 < 5) then
    Option.bind (idx? (A5.list b30000000.Color) v6) fun x5 =>
      Option.bind (R01_Add v5 x5) fun x7 =>
        some (.inl (.L0 v1 b30000000 x7 (IntKind.wrap .i64 (v6 + 1))))
  else
    bif decide (v1 < 0) then
      Option.bind (R01_Mul b30000000.X 0) fun x10 =>
        Option.bind (R01_Add v5 x10) fun x12 =>
          some (.inr x12)
    else
      Option.bind (R01_Mul b30000000.X v1) fun x14 =>
        Option.bind (R01_Add v5 x14) fun x16 =>
          some (.inr x16)
def R08_Value_step : R08_Value_S → Option (R08_Value_S ⊕ Int)
  | .L0 v1 b30000000 v5 v6 => R08_Value_L0 v1 b30000000 v5 v6
def R08_Value_0 (a0 : api_Cost) (a1 : Int) : Option (R08_Value_S ⊕ Int) :=
  Option.bind (R08_Is a0) fun x1 =>
    bif (!x1) then
      some (.inr 0)
    else
      some (.inl (.L0 a1 a0 a0.Generic 0))
noncomputable def R08_Value (a0 : api_Cost) (a1 : Int) : Option Int := (R08_Value_0 a0 a1).bind (endO R08_Value_step)
inductive R29_bounds_S where
  | L0 (b30000000 : api_Traits) (b30000001 : api_Filter) (v5 : Bool)
def R29_bounds_L0 (b30000000 : api_Traits) (b30000001 : api_Filter) (v5 : Bool) : Option (R29_bounds_S ⊕ Bool) :=
  bif (b30000001.Tough.Kind != 0) then
    bif v5 then
      Option.bind (R01_Meets b30000001.Tough b30000000.Tough) fun x11 =>
        bif (!x11) then
          some (.inr false)
        else
            Option.bind (R08_Value b30000000.Cost 0) fun x14 =>
              Option.bind (R01_Meets b30000001.Value x14) fun x16 =>
                some (.inr x16)
    else
      bif (!false) then
        some (.inr false)
      else
          Option.bind (R08_Value b30000000.Cost 0) fun x19 =>
            Option.bind (R01_Meets b30000001.Value x19) fun x21 =>
              some (.inr x21)
  else
      Option.bind (R08_Value b30000000.Cost 0) fun x23 =>
        Option.bind (R01_Meets b30000001.Value x23) fun x25 =>
          some (.inr x25)
def R29_bounds_step : R29_bounds_S → Option (R29_bounds_S ⊕ Bool)
  | .L0 b30000000 b30000001 v5 => R29_bounds_L0 b30000000 b30000001 v5
def R29_bounds_0 (a0 : api_Traits) (a1 : api_Filter) : Option (R29_bounds_S ⊕ Bool) :=
  Option.bind (R29_sharing a0.Line.Types 1) fun x1 =>
    bif (a1.Power.Kind != 0) then
      bif x1 then
        Option.bind (R01_Meets a1.Power a0.Power) fun x5 =>
          bif (!x5) then
            some (.inr false)
          else
            R29_bounds_L0 a0 a1 x1
      else
        bif (!false) then
          some (.inr false)
        else
          R29_bounds_L0 a0 a1 x1
    else
      R29_bounds_L0 a0 a1 x1
noncomputable def R29_bounds (a0 : api_Traits) (a1 : api_Filter) : Option Bool := (R29_bounds_0 a0 a1).bind (endO R29_bounds_step)
inductive R29_Object_S where
  | L0 (b30000000 : api_Traits) (b30000001 : api_Filter)
  | L1 (b30000000 : api_Traits) (b30000001 : api_Filter)
def R29_Object_L1 (b30000000 : api_Traits) (b30000001 : api_Filter) : Option (R29_Object_S ⊕ Bool) :=
  bif (!(b30000001.Sub == ([] : List UInt8))) then
    Option.bind (R10_HasSub b30000000.Line b30000001.Sub) fun x35 =>
      bif (!x35) then
        some (.inr false)
      else
        Option.bind (R11_Has b30000000.Keys b30000001.Keys) fun x38 =>
          bif (!x38) then
            some (.inr false)
          else
            Option.bind (R29_bounds b30000000 b30000001) fun x41 =>
              some (.inr x41)
  else
    Option.bind (R11_Has b30000000.Keys b30000001.Keys) fun x43 =>
      bif (!x43) then
        some (.inr false)
      else
        Option.bind (R29_bounds b30000000 b30000001) fun x46 =>
          some (.inr x46)
def R29_Object_L0 (b30000000 : api_Traits) (b30000001 : api_Filter) : Option (R29_Object_S ⊕ Bool) :=
  bif (b30000001.Colors != 0) then
    Option.bind (R29_sharing b30000000.Colors b30000001.Colors) fun x25 =>
      bif (!x25) then
        some (.inr false)
      else
        Option.bind (R29_sharing b30000000.Colors b30000001.NotColors) fun x28 =>
          bif x28 then
            some (.inr false)
          else
            R29_Object_L1 b30000000 b30000001
  else
    Option.bind (R29_sharing b30000000.Colors b30000001.NotColors) fun x31 =>
      bif x31 then
        some (.inr false)
      else
        R29_Object_L1 b30000000 b30000001
def R29_Object_step : R29_Object_S → Option (R29_Object_S ⊕ Bool)
  | .L0 b30000000 b30000001 => R29_Object_L0 b30000000 b30000001
  | .L1 b30000000 b30000001 => R29_Object_L1 b30000000 b30000001
def R29_Object_0 (a0 : api_Object) (a1 : api_Traits) (a2 : Int) (a3 : Int) (a4 : api_Filter) : Option (R29_Object_S ⊕ Bool) :=
  Option.bind (R13_Is a4) fun x1 =>
    bif (!x1) then
      some (.inr false)
    else
      bif (a0.Zone != a4.Zone) then
        some (.inr false)
      else
        Option.bind (R29_who a1.Control a2 a4.Who) fun x5 =>
          bif (!x5) then
            some (.inr false)
          else
            Option.bind (R29_self a0.Id a3 a4.Self) fun x8 =>
              bif (!x8) then
                some (.inr false)
              else
                Option.bind (R29_tap a0.Tapped a4.Tap) fun x11 =>
                  bif (!x11) then
                    some (.inr false)
                  else
                    bif (a4.Types != 0) then
                      Option.bind (R29_sharing a1.Line.Types a4.Types) fun x15 =>
                        bif (!x15) then
                          some (.inr false)
                        else
                          Option.bind (R29_sharing a1.Line.Types a4.NotTypes) fun x18 =>
                            bif x18 then
                              some (.inr false)
                            else
                              R29_Object_L0 a1 a4
                    else
                      Option.bind (R29_sharing a1.Line.Types a4.NotTypes) fun x21 =>
                        bif x21 then
                          some (.inr false)
                        else
                          R29_Object_L0 a1 a4
noncomputable def R29_Object (a0 : api_Object) (a1 : api_Traits) (a2 : Int) (a3 : Int) (a4 : api_Filter) : Option Bool := (R29_Object_0 a0 a1 a2 a3 a4).bind (endO R29_Object_step)
abbrev L29_MatchObjects_S := Empty
def L29_MatchObjects_step : L29_MatchObjects_S → Option (L29_MatchObjects_S ⊕ Bool) := fun s => nomatch s
def L29_MatchObjects_0 (a0 : cardgamelaw29_Ask) (a1 : api_Filter) : Option (L29_MatchObjects_S ⊕ Bool) :=
  Option.bind (L29_light a0 a1) fun x1 =>
    bif (!x1) then
      Option.bind (L29_alive) fun x4 =>
        some (.inr x4)
    else
        Option.bind (match_Object a0.Object a0.Traits a0.You a0.Source a1) fun x6 =>
          Option.bind (R29_Object a0.Object a0.Traits a0.You a0.Source a1) fun x8 =>
            bif (x6 == x8) then
              Option.bind (L29_alive) fun x11 =>
                some (.inr x11)
            else
              some (.inr false)
noncomputable def L29_MatchObjects (a0 : cardgamelaw29_Ask) (a1 : api_Filter) : Option Bool := (L29_MatchObjects_0 a0 a1).bind (endO L29_MatchObjects_step)
inductive L29_MatchNarrower_S where
  | L0 (v2 : Int) (b30000000 : cardgamelaw29_Ask) (b30000001 : api_Filter) (b30000002 : api_Filter) (b30000003 : api_Filter)
  | L1 (v9 : Bool) (v10 : Bool) (v11 : Bool)
def L29_MatchNarrower_L1 (v9 : Bool) (v10 : Bool) (v11 : Bool) : Option (L29_MatchNarrower_S ⊕ Bool) :=
  bif v10 then
    bif (v9 == true) then
      bif (!v11) then
        Option.bind (L29_alive) fun x87 =>
          some (.inr x87)
      else
        some (.inr false)
    else
      some (.inr false)
  else
    bif (v9 == v11) then
      bif (!false) then
        Option.bind (L29_alive) fun x91 =>
          some (.inr x91)
      else
        some (.inr false)
    else
      some (.inr false)
def L29_MatchNarrower_L0 (v2 : Int) (b30000000 : cardgamelaw29_Ask) (b30000001 : api_Filter) (b30000002 : api_Filter) (b30000003 : api_Filter) : Option (L29_MatchNarrower_S ⊕ Bool) :=
  Option.bind (match_Object b30000000.Object b30000000.Traits b30000000.You b30000000.Source b30000001) fun x14 =>
    Option.bind (match_Object b30000000.Object b30000000.Traits b30000000.You b30000000.Source b30000002) fun x16 =>
      Option.bind (match_Object b30000000.Object b30000000.Traits b30000000.You b30000000.Source b30000003) fun x18 =>
        bif ((Int.tmod v2 4) != 3) then
          bif (b30000001.Tap != 0) then
            bif ((Int.tmod v2 4) == 0) then
              bif x16 then
                bif (!x18) then
                  Option.bind (L29_alive) fun x25 =>
                    some (.inr x25)
                else
                  some (.inr false)
              else
                bif (!false) then
                  Option.bind (L29_alive) fun x28 =>
                    some (.inr x28)
                else
                  some (.inr false)
            else
              bif (b30000001.Who != 0) then
                bif ((Int.tmod v2 4) == 1) then
                  bif x16 then
                    bif (!x18) then
                      Option.bind (L29_alive) fun x34 =>
                        some (.inr x34)
                    else
                      some (.inr false)
                  else
                    bif (!false) then
                      Option.bind (L29_alive) fun x37 =>
                        some (.inr x37)
                    else
                      some (.inr false)
                else
                  bif (b30000001.Self != 0) then
                    bif ((Int.tmod v2 4) == 2) then
                      bif x16 then
                        bif (!x18) then
                          Option.bind (L29_alive) fun x43 =>
                            some (.inr x43)
                        else
                          some (.inr false)
                      else
                        bif (!false) then
                          Option.bind (L29_alive) fun x46 =>
                            some (.inr x46)
                        else
                          some (.inr false)
                    else
                      L29_MatchNarrower_L1 x14 x16 x18
                  else
                    L29_MatchNarrower_L1 x14 x16 x18
              else
                bif (b30000001.Self != 0) then
                  bif ((Int.tmod v2 4) == 2) then
                    bif x16 then
                      bif (!x18) then
                        Option.bind (L29_alive) fun x52 =>
                          some (.inr x52)
                      else
                        some (.inr false)
                    else
                      bif (!false) then
                        Option.bind (L29_alive) fun x55 =>
                          some (.inr x55)
                      else
                        some (.inr false)
                  else
                    L29_MatchNarrower_L1 x14 x16 x18
                else
                  L29_MatchNarrower_L1 x14 x16 x18
          else
            bif (b30000001.Who != 0) then
              bif ((Int.tmod v2 4) == 1) then
                bif x16 then
                  bif (!x18) then
                    Option.bind (L29_alive) fun x61 =>
                      some (.inr x61)
                  else
                    some (.inr false)
                else
                  bif (!false) then
                    Option.bind (L29_alive) fun x64 =>
                      some (.inr x64)
                  else
                    some (.inr false)
              else
                bif (b30000001.Self != 0) then
                  bif ((Int.tmod v2 4) == 2) then
                    bif x16 then
                      bif (!x18) then
                        Option.bind (L29_alive) fun x70 =>
                          some (.inr x70)
                      else
                        some (.inr false)
                    else
                      bif (!false) then
                        Option.bind (L29_alive) fun x73 =>
                          some (.inr x73)
                      else
                        some (.inr false)
                  else
                    L29_MatchNarrower_L1 x14 x16 x18
                else
                  L29_MatchNarrower_L1 x14 x16 x18
            else
              bif (b30000001.Self != 0) then
                bif ((Int.tmod v2 4) == 2) then
                  bif x16 then
                    bif (!x18) then
                      Option.bind (L29_alive) fun x79 =>
                        some (.inr x79)
                    else
                      some (.inr false)
                  else
                    bif (!false) then
                      Option.bind (L29_alive) fun x82 =>
                        some (.inr x82)
                    else
                      some (.inr false)
                else
                  L29_MatchNarrower_L1 x14 x16 x18
              else
                L29_MatchNarrower_L1 x14 x16 x18
        else
          L29_MatchNarrower_L1 x14 x16 x18
def L29_MatchNarrower_step : L29_MatchNarrower_S → Option (L29_MatchNarrower_S ⊕ Bool)
  | .L0 v2 b30000000 b30000001 b30000002 b30000003 => L29_MatchNarrower_L0 v2 b30000000 b30000001 b30000002 b30000003
  | .L1 v9 v10 v11 => L29_MatchNarrower_L1 v9 v10 v11
def L29_MatchNarrower_0 (a0 : cardgamelaw29_Ask) (a1 : api_Filter) (a2 : Int) : Option (L29_MatchNarrower_S ⊕ Bool) :=
  Option.bind (L29_light a0 a1) fun x1 =>
    bif (!x1) then
      Option.bind (L29_alive) fun x4 =>
        some (.inr x4)
    else
      Option.bind (R13_Is a1) fun x6 =>
        bif (!x6) then
          Option.bind (L29_alive) fun x9 =>
            some (.inr x9)
        else
            bif ((Int.tmod a2 4) == 0) then
              L29_MatchNarrower_L0 a2 a0 a1 (⟨a1.Zone, a1.Who, a1.Self, a1.Types, a1.NotTypes, a1.Colors, a1.NotColors, a1.Sub, a1.Keys, 1, a1.Power, a1.Tough, a1.Value⟩ : api_Filter) (⟨a1.Zone, a1.Who, a1.Self, a1.Types, a1.NotTypes, a1.Colors, a1.NotColors, a1.Sub, a1.Keys, 2, a1.Power, a1.Tough, a1.Value⟩ : api_Filter)
            else
              bif ((Int.tmod a2 4) == 1) then
                L29_MatchNarrower_L0 a2 a0 a1 (⟨a1.Zone, 1, a1.Self, a1.Types, a1.NotTypes, a1.Colors, a1.NotColors, a1.Sub, a1.Keys, a1.Tap, a1.Power, a1.Tough, a1.Value⟩ : api_Filter) (⟨a1.Zone, 2, a1.Self, a1.Types, a1.NotTypes, a1.Colors, a1.NotColors, a1.Sub, a1.Keys, a1.Tap, a1.Power, a1.Tough, a1.Value⟩ : api_Filter)
              else
                bif ((Int.tmod a2 4) == 2) then
                  L29_MatchNarrower_L0 a2 a0 a1 (⟨a1.Zone, a1.Who, 1, a1.Types, a1.NotTypes, a1.Colors, a1.NotColors, a1.Sub, a1.Keys, a1.Tap, a1.Power, a1.Tough, a1.Value⟩ : api_Filter) (⟨a1.Zone, a1.Who, 2, a1.Types, a1.NotTypes, a1.Colors, a1.NotColors, a1.Sub, a1.Keys, a1.Tap, a1.Power, a1.Tough, a1.Value⟩ : api_Filter)
                else
                  L29_MatchNarrower_L0 a2 a0 (⟨a1.Zone, a1.Who, a1.Self, 0, 0, a1.Colors, a1.NotColors, a1.Sub, a1.Keys, a1.Tap, a1.Power, a1.Tough, a1.Value⟩ : api_Filter) (⟨a1.Zone, a1.Who, a1.Self, 1, 0, a1.Colors, a1.NotColors, a1.Sub, a1.Keys, a1.Tap, a1.Power, a1.Tough, a1.Value⟩ : api_Filter) (⟨a1.Zone, a1.Who, a1.Self, 0, 1, a1.Colors, a1.NotColors, a1.Sub, a1.Keys, a1.Tap, a1.Power, a1.Tough, a1.Value⟩ : api_Filter)
noncomputable def L29_MatchNarrower (a0 : cardgamelaw29_Ask) (a1 : api_Filter) (a2 : Int) : Option Bool := (L29_MatchNarrower_0 a0 a1 a2).bind (endO L29_MatchNarrower_step)
abbrev L29_MatchInvalid_S := Empty
def L29_MatchInvalid_step : L29_MatchInvalid_S → Option (L29_MatchInvalid_S ⊕ Bool) := fun s => nomatch s
def L29_MatchInvalid_0 (a0 : cardgamelaw29_Ask) (a1 : api_Filter) : Option (L29_MatchInvalid_S ⊕ Bool) :=
  Option.bind (L29_light a0 a1) fun x1 =>
    bif (!x1) then
      Option.bind (L29_alive) fun x4 =>
        some (.inr x4)
    else
      Option.bind (R13_Is a1) fun x6 =>
        bif x6 then
          Option.bind (L29_alive) fun x9 =>
            some (.inr x9)
        else
          Option.bind (match_Object a0.Object a0.Traits a0.You a0.Source a1) fun x11 =>
            bif (!x11) then
              Option.bind (L29_alive) fun x14 =>
                some (.inr x14)
            else
              some (.inr false)
noncomputable def L29_MatchInvalid (a0 : cardgamelaw29_Ask) (a1 : api_Filter) : Option Bool := (L29_MatchInvalid_0 a0 a1).bind (endO L29_MatchInvalid_step)
inductive R17_Light_S where
  | L0 (b30000000 : api_Effect) (v3 : Int)
def R17_Light_L0 (b30000000 : api_Effect) (v3 : Int) : Option (R17_Light_S ⊕ Bool) :=
  bif decide (v3 < (b30000000.Mods.length : Int)) then
    Option.bind (idx? b30000000.Mods v3) fun x7 =>
      bif decide ((x7.Sub.length : Int) > 100) then
        some (.inr false)
      else
        Option.bind (idx? b30000000.Mods v3) fun x10 =>
          bif decide ((x10.Filter.Sub.length : Int) > 100) then
            some (.inr false)
          else
            some (.inl (.L0 b30000000 (IntKind.wrap .i64 (v3 + 1))))
  else
    some (.inr true)
def R17_Light_step : R17_Light_S → Option (R17_Light_S ⊕ Bool)
  | .L0 b30000000 v3 => R17_Light_L0 b30000000 v3
def R17_Light_0 (a0 : api_Effect) : Option (R17_Light_S ⊕ Bool) :=
  bif decide ((a0.Card.length : Int) > 100) then
    some (.inr false)
  else
    bif decide ((a0.Ref.Filter.Sub.length : Int) > 100) then
      some (.inr false)
    else
      bif decide ((a0.Amount.Filter.Sub.length : Int) > 100) then
        some (.inr false)
      else
        bif decide ((a0.Filter.Sub.length : Int) > 100) then
          some (.inr false)
        else
          bif decide ((a0.Mods.length : Int) > 20) then
            some (.inr false)
          else
            some (.inl (.L0 a0 0))
noncomputable def R17_Light (a0 : api_Effect) : Option Bool := (R17_Light_0 a0).bind (endO R17_Light_step)
inductive R17_LightList_S where
  | L0 (v0 : (List api_Effect)) (v3 : Int)
def R17_LightList_L0 (v0 : (List api_Effect)) (v3 : Int) : Option (R17_LightList_S ⊕ Bool) :=
  bif decide (v3 < (v0.length : Int)) then
    Option.bind (idx? v0 v3) fun x2 =>
      Option.bind (R17_Light x2) fun x4 =>
        bif (!x4) then
          some (.inr false)
        else
          some (.inl (.L0 v0 (IntKind.wrap .i64 (v3 + 1))))
  else
    some (.inr (decide ((v0.length : Int) ≤ 20)))
def R17_LightList_step : R17_LightList_S → Option (R17_LightList_S ⊕ Bool)
  | .L0 v0 v3 => R17_LightList_L0 v0 v3
def R17_LightList_0 (a0 : (List api_Effect)) : Option (R17_LightList_S ⊕ Bool) :=
  some (.inl (.L0 a0 0))
noncomputable def R17_LightList (a0 : (List api_Effect)) : Option Bool := (R17_LightList_0 a0).bind (endO R17_LightList_step)
inductive R20_Light_S where
  | L0 (b30000000 : api_Ability) (v3 : Int)
  | L1 (b30000000 : api_Ability) (v4 : Int)
def R20_Light_L0 (b30000000 : api_Ability) (v3 : Int) : Option (R20_Light_S ⊕ Bool) :=
  bif decide (v3 < (b30000000.Mods.length : Int)) then
    Option.bind (idx? b30000000.Mods v3) fun x10 =>
      bif decide ((x10.Sub.length : Int) > 100) then
        some (.inr false)
      else
        Option.bind (idx? b30000000.Mods v3) fun x13 =>
          bif decide ((x13.Filter.Sub.length : Int) > 100) then
            some (.inr false)
          else
            some (.inl (.L0 b30000000 (IntKind.wrap .i64 (v3 + 1))))
  else
    some (.inl (.L1 b30000000 0))
def R20_Light_L1 (b30000000 : api_Ability) (v4 : Int) : Option (R20_Light_S ⊕ Bool) :=
  bif decide (v4 < (b30000000.Specs.length : Int)) then
    Option.bind (idx? b30000000.Specs v4) fun x17 =>
      bif decide ((x17.Filter.Sub.length : Int) > 100) then
        some (.inr false)
      else
        some (.inl (.L1 b30000000 (IntKind.wrap .i64 (v4 + 1))))
  else
    some (.inr true)
def R20_Light_step : R20_Light_S → Option (R20_Light_S ⊕ Bool)
  | .L0 b30000000 v3 => R20_Light_L0 b30000000 v3
  | .L1 b30000000 v4 => R20_Light_L1 b30000000 v4
def R20_Light_0 (a0 : api_Ability) : Option (R20_Light_S ⊕ Bool) :=
  bif decide ((a0.Filter.Sub.length : Int) > 100) then
    some (.inr false)
  else
    bif decide ((a0.Mods.length : Int) > 20) then
      some (.inr false)
    else
      bif decide ((a0.Trigger.Filter.Sub.length : Int) > 100) then
        some (.inr false)
      else
        bif decide ((a0.Specs.length : Int) > 20) then
          some (.inr false)
        else
          bif decide ((a0.Replace.Filter.Sub.length : Int) > 100) then
            some (.inr false)
          else
            Option.bind (R17_LightList a0.Effects) fun x6 =>
              bif (!x6) then
                some (.inr false)
              else
                some (.inl (.L0 a0 0))
noncomputable def R20_Light (a0 : api_Ability) : Option Bool := (R20_Light_0 a0).bind (endO R20_Light_step)
inductive R26_Small_S where
  | L0 (b30000000 : api_State) (v3 : Int) (v4 : Int)
  | L1 (b30000000 : api_State) (v3 : Int)
  | L2 (b30000000 : api_State) (v5 : Int)
  | L3 (b30000000 : api_State) (v6 : Int)
  | L4 (b30000000 : api_State) (v7 : Int)
def R26_Small_L1 (b30000000 : api_State) (v3 : Int) : Option (R26_Small_S ⊕ Bool) :=
  bif decide (v3 > 300) then
    some (.inr false)
  else
    bif decide ((b30000000.Players.length : Int) > 10) then
      some (.inr false)
    else
      some (.inl (.L2 b30000000 0))
def R26_Small_L0 (b30000000 : api_State) (v3 : Int) (v4 : Int) : Option (R26_Small_S ⊕ Bool) :=
  bif decide (v4 < (b30000000.Players.length : Int)) then
    bif decide (v4 < 10) then
        Option.bind (idx? b30000000.Players v4) fun x3 =>
          Option.bind (idx? b30000000.Players v4) fun x5 =>
            Option.bind (idx? b30000000.Players v4) fun x7 =>
              some (.inl (.L0 b30000000 (IntKind.wrap .i64 ((IntKind.wrap .i64 ((IntKind.wrap .i64 (v3 + (x3.Library.length : Int))) + (x5.Hand.length : Int))) + (x7.Graveyard.length : Int))) (IntKind.wrap .i64 (v4 + 1))))
    else
      R26_Small_L1 b30000000 v3
  else
    R26_Small_L1 b30000000 v3
def R26_Small_L2 (b30000000 : api_State) (v5 : Int) : Option (R26_Small_S ⊕ Bool) :=
  bif decide (v5 < (b30000000.Stack.length : Int)) then
    Option.bind (idx? b30000000.Stack v5) fun x12 =>
      bif decide ((x12.Targets.length : Int) > 20) then
        some (.inr false)
      else
        Option.bind (idx? b30000000.Stack v5) fun x15 =>
          Option.bind (R20_Light x15.Ability) fun x17 =>
            bif (!x17) then
              some (.inr false)
            else
              some (.inl (.L2 b30000000 (IntKind.wrap .i64 (v5 + 1))))
  else
    some (.inl (.L3 b30000000 0))
def R26_Small_L3 (b30000000 : api_State) (v6 : Int) : Option (R26_Small_S ⊕ Bool) :=
  bif decide (v6 < (b30000000.Waiting.length : Int)) then
    Option.bind (idx? b30000000.Waiting v6) fun x21 =>
      Option.bind (R20_Light x21.Ability) fun x23 =>
        bif (!x23) then
          some (.inr false)
        else
          some (.inl (.L3 b30000000 (IntKind.wrap .i64 (v6 + 1))))
  else
    some (.inl (.L4 b30000000 0))
def R26_Small_L4 (b30000000 : api_State) (v7 : Int) : Option (R26_Small_S ⊕ Bool) :=
  bif decide (v7 < (b30000000.Conts.length : Int)) then
    Option.bind (idx? b30000000.Conts v7) fun x27 =>
      bif decide ((x27.Objects.length : Int) > 300) then
        some (.inr false)
      else
        Option.bind (idx? b30000000.Conts v7) fun x30 =>
          Option.bind (R20_Light (⟨0, (⟨0, 0, 0, 0, 0, 0, 0, ([] : List UInt8), 0, 0, (⟨0, 0⟩ : api_Bound), (⟨0, 0⟩ : api_Bound), (⟨0, 0⟩ : api_Bound)⟩ : api_Filter), x30.Mods, (⟨(⟨0, 0, (⟨0, 0, 0, 0, 0⟩ : (A5 Int))⟩ : api_Cost), false, false, 0⟩ : api_Price), false, (⟨0, 0, (⟨0, 0, 0, 0, 0, 0, 0, ([] : List UInt8), 0, 0, (⟨0, 0⟩ : api_Bound), (⟨0, 0⟩ : api_Bound), (⟨0, 0⟩ : api_Bound)⟩ : api_Filter)⟩ : api_Trigger), false, ([] : (List api_Spec)), ([] : (List api_Effect)), (⟨0, 0, (⟨0, 0, 0, 0, 0, 0, 0, ([] : List UInt8), 0, 0, (⟨0, 0⟩ : api_Bound), (⟨0, 0⟩ : api_Bound), (⟨0, 0⟩ : api_Bound)⟩ : api_Filter), 0, 0, 0, 0⟩ : api_Replace)⟩ : api_Ability)) fun x32 =>
            bif (!x32) then
              some (.inr false)
            else
              some (.inl (.L4 b30000000 (IntKind.wrap .i64 (v7 + 1))))
  else
    some (.inr true)
def R26_Small_step : R26_Small_S → Option (R26_Small_S ⊕ Bool)
  | .L0 b30000000 v3 v4 => R26_Small_L0 b30000000 v3 v4
  | .L1 b30000000 v3 => R26_Small_L1 b30000000 v3
  | .L2 b30000000 v5 => R26_Small_L2 b30000000 v5
  | .L3 b30000000 v6 => R26_Small_L3 b30000000 v6
  | .L4 b30000000 v7 => R26_Small_L4 b30000000 v7
def R26_Small_0 (a0 : api_State) : Option (R26_Small_S ⊕ Bool) :=
  some (.inl (.L0 a0 (IntKind.wrap .i64 ((IntKind.wrap .i64 ((IntKind.wrap .i64 ((IntKind.wrap .i64 ((IntKind.wrap .i64 ((IntKind.wrap .i64 ((a0.Objects.length : Int) + (a0.Battlefield.length : Int))) + (a0.Exile.length : Int))) + (a0.Extra.length : Int))) + (IntKind.wrap .i64 (8 * (a0.Stack.length : Int))))) + (IntKind.wrap .i64 (8 * (a0.Waiting.length : Int))))) + (IntKind.wrap .i64 (4 * (a0.Conts.length : Int))))) 0))
noncomputable def R26_Small (a0 : api_State) : Option Bool := (R26_Small_0 a0).bind (endO R26_Small_step)
abbrev match_Player_S := Empty
def match_Player_step : match_Player_S → Option (match_Player_S ⊕ Bool) := fun s => nomatch s
def match_Player_0 (a0 : api_State) (a1 : Int) (a2 : Int) (a3 : Int) : Option (match_Player_S ⊕ Bool) :=
  bif decide (a1 < 0) then
    some (.inr false)
  else
    bif decide (a1 ≥ (a0.Players.length : Int)) then
      some (.inr false)
    else
      Option.bind (idx? a0.Players a1) fun x3 =>
        bif x3.Lost then
          some (.inr false)
        else
          bif (a3 == 0) then
            some (.inr true)
          else
            bif (a3 == 1) then
              some (.inr (a1 == a2))
            else
              bif (a3 == 2) then
                some (.inr (a1 != a2))
              else
                some (.inr false)
noncomputable def match_Player (a0 : api_State) (a1 : Int) (a2 : Int) (a3 : Int) : Option Bool := (match_Player_0 a0 a1 a2 a3).bind (endO match_Player_step)
inductive L29_MatchPlayers_S where
  | L0 (v1 : Int) (v2 : Int) (b30000000 : api_State) (v7 : Bool) (v8 : Bool) (v9 : Bool) (v10 : Bool)
  | L1 (v1 : Int) (v2 : Int) (b30000000 : api_State)
def L29_MatchPlayers_L1 (v1 : Int) (v2 : Int) (b30000000 : api_State) : Option (L29_MatchPlayers_S ⊕ Bool) :=
  Option.bind (match_Player b30000000 v1 v2 3) fun x22 =>
    bif (!x22) then
      Option.bind (match_Player b30000000 v1 v2 (-1)) fun x25 =>
        bif (!x25) then
          Option.bind (L29_alive) fun x28 =>
            some (.inr x28)
        else
          some (.inr false)
    else
      some (.inr false)
def L29_MatchPlayers_L0 (v1 : Int) (v2 : Int) (b30000000 : api_State) (v7 : Bool) (v8 : Bool) (v9 : Bool) (v10 : Bool) : Option (L29_MatchPlayers_S ⊕ Bool) :=
  bif (!(v7 == v10)) then
    some (.inr false)
  else
    bif v8 then
      bif (!(v7 == true)) then
        some (.inr false)
      else
        bif v9 then
          some (.inr false)
        else
          bif (v1 != v2) then
            some (.inr false)
          else
            L29_MatchPlayers_L1 v1 v2 b30000000
    else
      bif (!(v7 == v9)) then
        some (.inr false)
      else
        L29_MatchPlayers_L1 v1 v2 b30000000
def L29_MatchPlayers_step : L29_MatchPlayers_S → Option (L29_MatchPlayers_S ⊕ Bool)
  | .L0 v1 v2 b30000000 v7 v8 v9 v10 => L29_MatchPlayers_L0 v1 v2 b30000000 v7 v8 v9 v10
  | .L1 v1 v2 b30000000 => L29_MatchPlayers_L1 v1 v2 b30000000
def L29_MatchPlayers_0 (a0 : api_State) (a1 : Int) (a2 : Int) : Option (L29_MatchPlayers_S ⊕ Bool) :=
  Option.bind (R26_Small a0) fun x1 =>
    bif (!x1) then
      Option.bind (L29_alive) fun x4 =>
        some (.inr x4)
    else
        Option.bind (match_Player a0 a1 a2 0) fun x6 =>
          Option.bind (match_Player a0 a1 a2 1) fun x8 =>
            Option.bind (match_Player a0 a1 a2 2) fun x10 =>
              bif decide (a1 ≥ 0) then
                bif decide (a1 < (a0.Players.length : Int)) then
                  Option.bind (idx? a0.Players a1) fun x14 =>
                    L29_MatchPlayers_L0 a1 a2 a0 x6 x8 x10 (!x14.Lost)
                else
                  L29_MatchPlayers_L0 a1 a2 a0 x6 x8 x10 false
              else
                L29_MatchPlayers_L0 a1 a2 a0 x6 x8 x10 false
noncomputable def L29_MatchPlayers (a0 : api_State) (a1 : Int) (a2 : Int) : Option Bool := (L29_MatchPlayers_0 a0 a1 a2).bind (endO L29_MatchPlayers_step)
inductive L29_short_S where
  | L0 (v0 : (List api_Traits)) (v5 : (List api_Traits)) (v6 : Int) (v7 : Int)
def L29_short_L0 (v0 : (List api_Traits)) (v5 : (List api_Traits)) (v6 : Int) (v7 : Int) : Option (L29_short_S ⊕ Bool) :=
  bif decide (v7 < v6) then
    Option.bind (idx? v5 v7) fun x2 =>
      Option.bind (L29_light (⟨(⟨0, 0, 0, 0, 0, false, false, false, false, 0, (⟨0, 0, 0⟩ : (A3 Int)), 0, 0, 0, false, 0, 0⟩ : api_Object), x2, 0, 0⟩ : cardgamelaw29_Ask) (⟨0, 0, 0, 0, 0, 0, 0, ([] : List UInt8), 0, 0, (⟨0, 0⟩ : api_Bound), (⟨0, 0⟩ : api_Bound), (⟨0, 0⟩ : api_Bound)⟩ : api_Filter)) fun x4 =>
        bif (!x4) then
          some (.inr false)
        else
          some (.inl (.L0 v0 v5 v6 (IntKind.wrap .i64 (v7 + 1))))
  else
    some (.inr (decide ((v0.length : Int) ≤ 300)))
def L29_short_step : L29_short_S → Option (L29_short_S ⊕ Bool)
  | .L0 v0 v5 v6 v7 => L29_short_L0 v0 v5 v6 v7
def L29_short_0 (a0 : (List api_Traits)) : Option (L29_short_S ⊕ Bool) :=
  some (.inl (.L0 a0 a0 (a0.length : Int) 0))
noncomputable def L29_short (a0 : (List api_Traits)) : Option Bool := (L29_short_0 a0).bind (endO L29_short_step)
inductive match_List_S where
  | L0 (v1 : (List api_Traits)) (v2 : Int) (v3 : Int) (b30000000 : api_Filter) (v11 : (List Int)) (v16 : (List api_Object)) (v17 : Int) (v18 : Int)
  | L1 (v1 : (List api_Traits)) (v2 : Int) (v3 : Int) (b30000000 : api_Filter) (v11 : (List Int)) (b30000001 : api_Object) (b30000002 : api_Traits) (v16 : (List api_Object)) (v17 : Int) (v18 : Int)
def match_List_L1 (v1 : (List api_Traits)) (v2 : Int) (v3 : Int) (b30000000 : api_Filter) (v11 : (List Int)) (b30000001 : api_Object) (b30000002 : api_Traits) (v16 : (List api_Object)) (v17 : Int) (v18 : Int) : Option (match_List_S ⊕ (List Int)) :=
  Option.bind (match_Object b30000001 b30000002 v2 v3 b30000000) fun x7 =>
    bif x7 then
      Option.bind (app? 8 v11 [b30000001.Id]) fun x10 =>
        some (.inl (.L0 v1 v2 v3 b30000000 x10 v16 v17 (IntKind.wrap .i64 (v18 + 1))))
    else
      some (.inl (.L0 v1 v2 v3 b30000000 v11 v16 v17 (IntKind.wrap .i64 (v18 + 1))))
def match_List_L0 (v1 : (List api_Traits)) (v2 : Int) (v3 : Int) (b30000000 : api_Filter) (v11 : (List Int)) (v16 : (List api_Object)) (v17 : Int) (v18 : Int) : Option (match_List_S ⊕ (List Int)) :=
  bif decide (v18 < v17) then
    Option.bind (idx? v16 v18) fun x2 =>
      bif decide (v18 < (v1.length : Int)) then
        Option.bind (idx? v1 v18) fun x5 =>
          match_List_L1 v1 v2 v3 b30000000 v11 x2 x5 v16 v17 v18
      else
        match_List_L1 v1 v2 v3 b30000000 v11 x2 (⟨([] : List UInt8), (⟨0, 0, (⟨0, 0, 0, 0, 0⟩ : (A5 Int))⟩ : api_Cost), 0, (⟨0, 0, ([] : (List (List UInt8)))⟩ : api_Line), 0, 0, 0, ([] : (List api_Ability)), 0⟩ : api_Traits) v16 v17 v18
  else
    some (.inr v11)
def match_List_step : match_List_S → Option (match_List_S ⊕ (List Int))
  | .L0 v1 v2 v3 b30000000 v11 v16 v17 v18 => match_List_L0 v1 v2 v3 b30000000 v11 v16 v17 v18
  | .L1 v1 v2 v3 b30000000 v11 b30000001 b30000002 v16 v17 v18 => match_List_L1 v1 v2 v3 b30000000 v11 b30000001 b30000002 v16 v17 v18
def match_List_0 (a0 : api_State) (a1 : (List api_Traits)) (a2 : Int) (a3 : Int) (a4 : api_Filter) : Option (match_List_S ⊕ (List Int)) :=
  some (.inl (.L0 a1 a2 a3 a4 ([] : (List Int)) a0.Objects (a0.Objects.length : Int) 0))
noncomputable def match_List (a0 : api_State) (a1 : (List api_Traits)) (a2 : Int) (a3 : Int) (a4 : api_Filter) : Option (List Int) := (match_List_0 a0 a1 a2 a3 a4).bind (endO match_List_step)
abbrev R29_At_S := Empty
def R29_At_step : R29_At_S → Option (R29_At_S ⊕ api_Traits) := fun s => nomatch s
def R29_At_0 (a0 : (List api_Traits)) (a1 : Int) : Option (R29_At_S ⊕ api_Traits) :=
  bif decide (a1 < 0) then
    some (.inr (⟨([] : List UInt8), (⟨0, 0, (⟨0, 0, 0, 0, 0⟩ : (A5 Int))⟩ : api_Cost), 0, (⟨0, 0, ([] : (List (List UInt8)))⟩ : api_Line), 0, 0, 0, ([] : (List api_Ability)), 0⟩ : api_Traits))
  else
    bif decide (a1 ≥ (a0.length : Int)) then
      some (.inr (⟨([] : List UInt8), (⟨0, 0, (⟨0, 0, 0, 0, 0⟩ : (A5 Int))⟩ : api_Cost), 0, (⟨0, 0, ([] : (List (List UInt8)))⟩ : api_Line), 0, 0, 0, ([] : (List api_Ability)), 0⟩ : api_Traits))
    else
      Option.bind (idx? a0 a1) fun x3 =>
        some (.inr x3)
noncomputable def R29_At (a0 : (List api_Traits)) (a1 : Int) : Option api_Traits := (R29_At_0 a0 a1).bind (endO R29_At_step)
inductive R29_List_S where
  | L0 (v1 : (List api_Traits)) (v2 : Int) (v3 : Int) (b30000000 : api_State) (b30000001 : api_Filter) (v11 : (List Int)) (v12 : Int)
def R29_List_L0 (v1 : (List api_Traits)) (v2 : Int) (v3 : Int) (b30000000 : api_State) (b30000001 : api_Filter) (v11 : (List Int)) (v12 : Int) : Option (R29_List_S ⊕ (List Int)) :=
  bif decide (v12 < (b30000000.Objects.length : Int)) then
      Option.bind (idx? b30000000.Objects v12) fun x2 =>
        Option.bind (R29_At v1 v12) fun x4 =>
          Option.bind (R29_Object x2 x4 v2 v3 b30000001) fun x6 =>
            bif x6 then
              Option.bind (idx? b30000000.Objects v12) fun x9 =>
                Option.bind (app? 8 v11 [x9.Id]) fun x11 =>
                  some (.inl (.L0 v1 v2 v3 b30000000 b30000001 x11 (IntKind.wrap .i64 (v12 + 1))))
            else
              some (.inl (.L0 v1 v2 v3 b30000000 b30000001 v11 (IntKind.wrap .i64 (v12 + 1))))
  else
    some (.inr v11)
def R29_List_step : R29_List_S → Option (R29_List_S ⊕ (List Int))
  | .L0 v1 v2 v3 b30000000 b30000001 v11 v12 => R29_List_L0 v1 v2 v3 b30000000 b30000001 v11 v12
def R29_List_0 (a0 : api_State) (a1 : (List api_Traits)) (a2 : Int) (a3 : Int) (a4 : api_Filter) : Option (R29_List_S ⊕ (List Int)) :=
  some (.inl (.L0 a1 a2 a3 a0 a4 ([] : (List Int)) 0))
noncomputable def R29_List (a0 : api_State) (a1 : (List api_Traits)) (a2 : Int) (a3 : Int) (a4 : api_Filter) : Option (List Int) := (R29_List_0 a0 a1 a2 a3 a4).bind (endO R29_List_step)
inductive R03_Same_S where
  | L0 (v0 : (List Int)) (v1 : (List Int)) (v5 : Int)
def R03_Same_L0 (v0 : (List Int)) (v1 : (List Int)) (v5 : Int) : Option (R03_Same_S ⊕ Bool) :=
  bif decide (v5 < (v0.length : Int)) then
      Option.bind (idx? v0 v5) fun x3 =>
        Option.bind (idx? v1 v5) fun x5 =>
          bif (x3 != x5) then
            some (.inr false)
          else
            some (.inl (.L0 v0 v1 (IntKind.wrap .i64 (v5 + 1))))
  else
    some (.inr true)
def R03_Same_step : R03_Same_S → Option (R03_Same_S ⊕ Bool)
  | .L0 v0 v1 v5 => R03_Same_L0 v0 v1 v5
def R03_Same_0 (a0 : (List Int)) (a1 : (List Int)) : Option (R03_Same_S ⊕ Bool) :=
  bif ((a0.length : Int) != (a1.length : Int)) then
    some (.inr false)
  else
    some (.inl (.L0 a0 a1 0))
noncomputable def R03_Same (a0 : (List Int)) (a1 : (List Int)) : Option Bool := (R03_Same_0 a0 a1).bind (endO R03_Same_step)
inductive L29_MatchLists_S where
  | L0 (v4 : (List api_Traits)) (b30000000 : api_Filter) (v6 : Int) (v7 : Int) (v8 : (List Int)) (v9 : Int) (v53 : (List api_Object)) (v54 : Int) (v55 : Int)
def L29_MatchLists_L0 (v4 : (List api_Traits)) (b30000000 : api_Filter) (v6 : Int) (v7 : Int) (v8 : (List Int)) (v9 : Int) (v53 : (List api_Object)) (v54 : Int) (v55 : Int) : Option (L29_MatchLists_S ⊕ Bool) :=
  bif decide (v55 < v54) then
    Option.bind (idx? v53 v55) fun x22 =>
        Option.bind (R29_At v4 v55) fun x24 =>
          Option.bind (match_Object x22 x24 v6 v7 b30000000) fun x26 =>
            bif x26 then
                bif decide (v9 ≥ (v8.length : Int)) then
                  some (.inr false)
                else
                  Option.bind (idx? v8 v9) fun x30 =>
                    bif (x30 != x22.Id) then
                      some (.inr false)
                    else
                      some (.inl (.L0 v4 b30000000 v6 v7 v8 (IntKind.wrap .i64 (v9 + 1)) v53 v54 (IntKind.wrap .i64 (v55 + 1))))
            else
              some (.inl (.L0 v4 b30000000 v6 v7 v8 v9 v53 v54 (IntKind.wrap .i64 (v55 + 1))))
  else
    bif (v9 == (v8.length : Int)) then
      Option.bind (L29_alive) fun x34 =>
        some (.inr x34)
    else
      some (.inr false)
def L29_MatchLists_step : L29_MatchLists_S → Option (L29_MatchLists_S ⊕ Bool)
  | .L0 v4 b30000000 v6 v7 v8 v9 v53 v54 v55 => L29_MatchLists_L0 v4 b30000000 v6 v7 v8 v9 v53 v54 v55
def L29_MatchLists_0 (a0 : cardgamelaw29_Lists) : Option (L29_MatchLists_S ⊕ Bool) :=
    Option.bind (R26_Small a0.S) fun x1 =>
      bif (!x1) then
        Option.bind (L29_alive) fun x4 =>
          some (.inr x4)
      else
        Option.bind (L29_short a0.All) fun x6 =>
          bif (!x6) then
            Option.bind (L29_alive) fun x9 =>
              some (.inr x9)
          else
            bif decide ((a0.F.Sub.length : Int) > 100) then
              Option.bind (L29_alive) fun x12 =>
                some (.inr x12)
            else
              Option.bind (match_List a0.S a0.All a0.You a0.Source a0.F) fun x14 =>
                Option.bind (R29_List a0.S a0.All a0.You a0.Source a0.F) fun x16 =>
                  Option.bind (R03_Same x14 x16) fun x18 =>
                    bif (!x18) then
                      some (.inr false)
                    else
                      some (.inl (.L0 a0.All a0.F a0.You a0.Source x14 0 a0.S.Objects (a0.S.Objects.length : Int) 0))
noncomputable def L29_MatchLists (a0 : cardgamelaw29_Lists) : Option Bool := (L29_MatchLists_0 a0).bind (endO L29_MatchLists_step)
end
end Go.PW
