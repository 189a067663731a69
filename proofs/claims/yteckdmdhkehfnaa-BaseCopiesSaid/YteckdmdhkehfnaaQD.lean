import Derived.Test.YteckdmdhkehfnaaPwR
namespace Go.PW
open Go.RowKit
noncomputable section
structure api_Cost where
  Generic : Int
  X : Int
  Color : (A5 Int)
  deriving DecidableEq, Inhabited
def c_api_Cost (x : api_Cost) : List Tree := (cI .i64) x.Generic ++ ((cI .i64) x.X ++ ((cA5 (cI .i64)) x.Color))
structure api_Line where
  Super : Int
  Types : Int
  Subs : (List (List UInt8))
  deriving DecidableEq, Inhabited
def c_api_Line (x : api_Line) : List Tree := (cI .i64) x.Super ++ ((cI .i64) x.Types ++ ((cL cS) x.Subs))
structure api_Bound where
  Kind : Int
  N : Int
  deriving DecidableEq, Inhabited
def c_api_Bound (x : api_Bound) : List Tree := (cI .i64) x.Kind ++ ((cI .i64) x.N)
structure api_Filter where
  Zone : Int
  Who : Int
  Self : Int
  Types : Int
  NotTypes : Int
  Colors : Int
  NotColors : Int
  Sub : (List UInt8)
  Keys : Int
  Tap : Int
  Power : api_Bound
  Tough : api_Bound
  Value : api_Bound
  deriving DecidableEq, Inhabited
def c_api_Filter (x : api_Filter) : List Tree := (cI .i64) x.Zone ++ ((cI .i64) x.Who ++ ((cI .i64) x.Self ++ ((cI .i64) x.Types ++ ((cI .i64) x.NotTypes ++ ((cI .i64) x.Colors ++ ((cI .i64) x.NotColors ++ (cS x.Sub ++ ((cI .i64) x.Keys ++ ((cI .i64) x.Tap ++ (c_api_Bound x.Power ++ (c_api_Bound x.Tough ++ (c_api_Bound x.Value))))))))))))
structure api_Mod where
  Kind : Int
  N : Int
  M : Int
  Sub : (List UInt8)
  Filter : api_Filter
  deriving DecidableEq, Inhabited
def c_api_Mod (x : api_Mod) : List Tree := (cI .i64) x.Kind ++ ((cI .i64) x.N ++ ((cI .i64) x.M ++ (cS x.Sub ++ (c_api_Filter x.Filter))))
structure api_Price where
  Mana : api_Cost
  Tap : Bool
  Sacrifice : Bool
  Life : Int
  deriving DecidableEq, Inhabited
def c_api_Price (x : api_Price) : List Tree := c_api_Cost x.Mana ++ (cB x.Tap ++ (cB x.Sacrifice ++ ((cI .i64) x.Life)))
structure api_Trigger where
  When : Int
  Who : Int
  Filter : api_Filter
  deriving DecidableEq, Inhabited
def c_api_Trigger (x : api_Trigger) : List Tree := (cI .i64) x.When ++ ((cI .i64) x.Who ++ (c_api_Filter x.Filter))
structure api_Spec where
  Player : Bool
  Object : Bool
  Filter : api_Filter
  deriving DecidableEq, Inhabited
def c_api_Spec (x : api_Spec) : List Tree := cB x.Player ++ (cB x.Object ++ (c_api_Filter x.Filter))
structure api_Ref where
  Kind : Int
  N : Int
  Filter : api_Filter
  deriving DecidableEq, Inhabited
def c_api_Ref (x : api_Ref) : List Tree := (cI .i64) x.Kind ++ ((cI .i64) x.N ++ (c_api_Filter x.Filter))
structure api_Amount where
  Kind : Int
  N : Int
  Counter : Int
  Filter : api_Filter
  deriving DecidableEq, Inhabited
def c_api_Amount (x : api_Amount) : List Tree := (cI .i64) x.Kind ++ ((cI .i64) x.N ++ ((cI .i64) x.Counter ++ (c_api_Filter x.Filter)))
structure api_Effect where
  Op : Int
  Ref : api_Ref
  Amount : api_Amount
  Counter : Int
  Zone : Int
  Card : (List UInt8)
  Filter : api_Filter
  Pool : (A6 Int)
  Mods : (List api_Mod)
  deriving DecidableEq, Inhabited
def c_api_Effect (x : api_Effect) : List Tree := (cI .i64) x.Op ++ (c_api_Ref x.Ref ++ (c_api_Amount x.Amount ++ ((cI .i64) x.Counter ++ ((cI .i64) x.Zone ++ (cS x.Card ++ (c_api_Filter x.Filter ++ ((cA6 (cI .i64)) x.Pool ++ ((cL c_api_Mod) x.Mods))))))))
structure api_Replace where
  On : Int
  Who : Int
  Filter : api_Filter
  Do : Int
  N : Int
  Zone : Int
  Counter : Int
  deriving DecidableEq, Inhabited
def c_api_Replace (x : api_Replace) : List Tree := (cI .i64) x.On ++ ((cI .i64) x.Who ++ (c_api_Filter x.Filter ++ ((cI .i64) x.Do ++ ((cI .i64) x.N ++ ((cI .i64) x.Zone ++ ((cI .i64) x.Counter))))))
structure api_Ability where
  Kind : Int
  Filter : api_Filter
  Mods : (List api_Mod)
  Price : api_Price
  Slow : Bool
  Trigger : api_Trigger
  May : Bool
  Specs : (List api_Spec)
  Effects : (List api_Effect)
  Replace : api_Replace
  deriving DecidableEq, Inhabited
def c_api_Ability (x : api_Ability) : List Tree := (cI .i64) x.Kind ++ (c_api_Filter x.Filter ++ ((cL c_api_Mod) x.Mods ++ (c_api_Price x.Price ++ (cB x.Slow ++ (c_api_Trigger x.Trigger ++ (cB x.May ++ ((cL c_api_Spec) x.Specs ++ ((cL c_api_Effect) x.Effects ++ (c_api_Replace x.Replace)))))))))
structure api_Card where
  Name : (List UInt8)
  Token : Bool
  Cost : api_Cost
  Color : Int
  Line : api_Line
  Power : Int
  Tough : Int
  Keys : Int
  Abilities : (List api_Ability)
  deriving DecidableEq, Inhabited
def c_api_Card (x : api_Card) : List Tree := cS x.Name ++ (cB x.Token ++ (c_api_Cost x.Cost ++ ((cI .i64) x.Color ++ (c_api_Line x.Line ++ ((cI .i64) x.Power ++ ((cI .i64) x.Tough ++ ((cI .i64) x.Keys ++ ((cL c_api_Ability) x.Abilities))))))))
structure api_Traits where
  Name : (List UInt8)
  Cost : api_Cost
  Colors : Int
  Line : api_Line
  Power : Int
  Tough : Int
  Keys : Int
  Abilities : (List api_Ability)
  Control : Int
  deriving DecidableEq, Inhabited
def c_api_Traits (x : api_Traits) : List Tree := cS x.Name ++ (c_api_Cost x.Cost ++ ((cI .i64) x.Colors ++ (c_api_Line x.Line ++ ((cI .i64) x.Power ++ ((cI .i64) x.Tough ++ ((cI .i64) x.Keys ++ ((cL c_api_Ability) x.Abilities ++ ((cI .i64) x.Control))))))))
structure api_Object where
  Id : Int
  Card : Int
  Owner : Int
  Control : Int
  Zone : Int
  Token : Bool
  Tapped : Bool
  Sick : Bool
  Deadly : Bool
  Damage : Int
  Counters : (A3 Int)
  Stamp : Int
  Copy : Int
  Attack : Int
  Blocked : Bool
  Blocks : Int
  Shield : Int
  deriving DecidableEq, Inhabited
def c_api_Object (x : api_Object) : List Tree := (cI .i64) x.Id ++ ((cI .i64) x.Card ++ ((cI .i64) x.Owner ++ ((cI .i64) x.Control ++ ((cI .i64) x.Zone ++ (cB x.Token ++ (cB x.Tapped ++ (cB x.Sick ++ (cB x.Deadly ++ ((cI .i64) x.Damage ++ ((cA3 (cI .i64)) x.Counters ++ ((cI .i64) x.Stamp ++ ((cI .i64) x.Copy ++ ((cI .i64) x.Attack ++ (cB x.Blocked ++ ((cI .i64) x.Blocks ++ ((cI .i64) x.Shield))))))))))))))))
inductive slices_Equal___api_Spec_api_Spec__S where
  | L0 (v0 : (List api_Spec)) (v1 : (List api_Spec)) (v12 : Int) (v13 : Int)
def slices_Equal___api_Spec_api_Spec__L0 (v0 : (List api_Spec)) (v1 : (List api_Spec)) (v12 : Int) (v13 : Int) : Option (slices_Equal___api_Spec_api_Spec__S ⊕ Bool) :=
  bif decide (v13 < v12) then
      Option.bind (idx? v0 v13) fun x3 =>
        Option.bind (idx? v1 v13) fun x5 =>
          bif (!(eqTs (c_api_Spec x3) (c_api_Spec x5))) then
            some (.inr false)
          else
            some (.inl (.L0 v0 v1 v12 (IntKind.wrap .i64 (v13 + 1))))
  else
    some (.inr true)
def slices_Equal___api_Spec_api_Spec__step : slices_Equal___api_Spec_api_Spec__S → Option (slices_Equal___api_Spec_api_Spec__S ⊕ Bool)
  | .L0 v0 v1 v12 v13 => slices_Equal___api_Spec_api_Spec__L0 v0 v1 v12 v13
def slices_Equal___api_Spec_api_Spec__0 (a0 : (List api_Spec)) (a1 : (List api_Spec)) : Option (slices_Equal___api_Spec_api_Spec__S ⊕ Bool) :=
  bif ((a0.length : Int) != (a1.length : Int)) then
    some (.inr false)
  else
    some (.inl (.L0 a0 a1 (a0.length : Int) 0))
noncomputable def slices_Equal___api_Spec_api_Spec_ (a0 : (List api_Spec)) (a1 : (List api_Spec)) : Option Bool := (slices_Equal___api_Spec_api_Spec__0 a0 a1).bind (endO slices_Equal___api_Spec_api_Spec__step)
inductive slices_Equal___api_Mod_api_Mod__S where
  | L0 (v0 : (List api_Mod)) (v1 : (List api_Mod)) (v12 : Int) (v13 : Int)
def slices_Equal___api_Mod_api_Mod__L0 (v0 : (List api_Mod)) (v1 : (List api_Mod)) (v12 : Int) (v13 : Int) : Option (slices_Equal___api_Mod_api_Mod__S ⊕ Bool) :=
  bif decide (v13 < v12) then
      Option.bind (idx? v0 v13) fun x3 =>
        Option.bind (idx? v1 v13) fun x5 =>
          bif (!(eqTs (c_api_Mod x3) (c_api_Mod x5))) then
            some (.inr false)
          else
            some (.inl (.L0 v0 v1 v12 (IntKind.wrap .i64 (v13 + 1))))
  else
    some (.inr true)
def slices_Equal___api_Mod_api_Mod__step : slices_Equal___api_Mod_api_Mod__S → Option (slices_Equal___api_Mod_api_Mod__S ⊕ Bool)
  | .L0 v0 v1 v12 v13 => slices_Equal___api_Mod_api_Mod__L0 v0 v1 v12 v13
def slices_Equal___api_Mod_api_Mod__0 (a0 : (List api_Mod)) (a1 : (List api_Mod)) : Option (slices_Equal___api_Mod_api_Mod__S ⊕ Bool) :=
  bif ((a0.length : Int) != (a1.length : Int)) then
    some (.inr false)
  else
    some (.inl (.L0 a0 a1 (a0.length : Int) 0))
noncomputable def slices_Equal___api_Mod_api_Mod_ (a0 : (List api_Mod)) (a1 : (List api_Mod)) : Option Bool := (slices_Equal___api_Mod_api_Mod__0 a0 a1).bind (endO slices_Equal___api_Mod_api_Mod__step)
abbrev slices_Clone___api_Effect_api_Effect__S := Empty
def slices_Clone___api_Effect_api_Effect__step : slices_Clone___api_Effect_api_Effect__S → Option (slices_Clone___api_Effect_api_Effect__S ⊕ (List api_Effect)) := fun s => nomatch s
def slices_Clone___api_Effect_api_Effect__0 (a0 : (List api_Effect)) : Option (slices_Clone___api_Effect_api_Effect__S ⊕ (List api_Effect)) :=
  Option.bind (app? 560 ([] : (List api_Effect)) a0) fun x1 =>
    some (.inr x1)
noncomputable def slices_Clone___api_Effect_api_Effect_ (a0 : (List api_Effect)) : Option (List api_Effect) := (slices_Clone___api_Effect_api_Effect__0 a0).bind (endO slices_Clone___api_Effect_api_Effect__step)
abbrev slices_Clone___api_Spec_api_Spec__S := Empty
def slices_Clone___api_Spec_api_Spec__step : slices_Clone___api_Spec_api_Spec__S → Option (slices_Clone___api_Spec_api_Spec__S ⊕ (List api_Spec)) := fun s => nomatch s
def slices_Clone___api_Spec_api_Spec__0 (a0 : (List api_Spec)) : Option (slices_Clone___api_Spec_api_Spec__S ⊕ (List api_Spec)) :=
  Option.bind (app? 144 ([] : (List api_Spec)) a0) fun x1 =>
    some (.inr x1)
noncomputable def slices_Clone___api_Spec_api_Spec_ (a0 : (List api_Spec)) : Option (List api_Spec) := (slices_Clone___api_Spec_api_Spec__0 a0).bind (endO slices_Clone___api_Spec_api_Spec__step)
abbrev slices_Clone___api_Mod_api_Mod__S := Empty
def slices_Clone___api_Mod_api_Mod__step : slices_Clone___api_Mod_api_Mod__S → Option (slices_Clone___api_Mod_api_Mod__S ⊕ (List api_Mod)) := fun s => nomatch s
def slices_Clone___api_Mod_api_Mod__0 (a0 : (List api_Mod)) : Option (slices_Clone___api_Mod_api_Mod__S ⊕ (List api_Mod)) :=
  Option.bind (app? 176 ([] : (List api_Mod)) a0) fun x1 =>
    some (.inr x1)
noncomputable def slices_Clone___api_Mod_api_Mod_ (a0 : (List api_Mod)) : Option (List api_Mod) := (slices_Clone___api_Mod_api_Mod__0 a0).bind (endO slices_Clone___api_Mod_api_Mod__step)
inductive R28_mods_S where
  | L0 (v0 : (List api_Mod)) (v1 : (List api_Mod)) (v5 : Int)
def R28_mods_L0 (v0 : (List api_Mod)) (v1 : (List api_Mod)) (v5 : Int) : Option (R28_mods_S ⊕ Bool) :=
  bif decide (v5 < (v0.length : Int)) then
      Option.bind (idx? v0 v5) fun x3 =>
        Option.bind (idx? v1 v5) fun x5 =>
          bif (!(eqTs (c_api_Mod x3) (c_api_Mod x5))) then
            some (.inr false)
          else
            some (.inl (.L0 v0 v1 (IntKind.wrap .i64 (v5 + 1))))
  else
    some (.inr true)
def R28_mods_step : R28_mods_S → Option (R28_mods_S ⊕ Bool)
  | .L0 v0 v1 v5 => R28_mods_L0 v0 v1 v5
def R28_mods_0 (a0 : (List api_Mod)) (a1 : (List api_Mod)) : Option (R28_mods_S ⊕ Bool) :=
  bif ((a0.length : Int) != (a1.length : Int)) then
    some (.inr false)
  else
    some (.inl (.L0 a0 a1 0))
noncomputable def R28_mods (a0 : (List api_Mod)) (a1 : (List api_Mod)) : Option Bool := (R28_mods_0 a0 a1).bind (endO R28_mods_step)
inductive slices_Equal___string_string__S where
  | L0 (v0 : (List (List UInt8))) (v1 : (List (List UInt8))) (v12 : Int) (v13 : Int)
def slices_Equal___string_string__L0 (v0 : (List (List UInt8))) (v1 : (List (List UInt8))) (v12 : Int) (v13 : Int) : Option (slices_Equal___string_string__S ⊕ Bool) :=
  bif decide (v13 < v12) then
      Option.bind (idx? v0 v13) fun x3 =>
        Option.bind (idx? v1 v13) fun x5 =>
          bif (!(x3 == x5)) then
            some (.inr false)
          else
            some (.inl (.L0 v0 v1 v12 (IntKind.wrap .i64 (v13 + 1))))
  else
    some (.inr true)
def slices_Equal___string_string__step : slices_Equal___string_string__S → Option (slices_Equal___string_string__S ⊕ Bool)
  | .L0 v0 v1 v12 v13 => slices_Equal___string_string__L0 v0 v1 v12 v13
def slices_Equal___string_string__0 (a0 : (List (List UInt8))) (a1 : (List (List UInt8))) : Option (slices_Equal___string_string__S ⊕ Bool) :=
  bif ((a0.length : Int) != (a1.length : Int)) then
    some (.inr false)
  else
    some (.inl (.L0 a0 a1 (a0.length : Int) 0))
noncomputable def slices_Equal___string_string_ (a0 : (List (List UInt8))) (a1 : (List (List UInt8))) : Option Bool := (slices_Equal___string_string__0 a0 a1).bind (endO slices_Equal___string_string__step)
abbrev slices_Clone___string_string__S := Empty
def slices_Clone___string_string__step : slices_Clone___string_string__S → Option (slices_Clone___string_string__S ⊕ (List (List UInt8))) := fun s => nomatch s
def slices_Clone___string_string__0 (a0 : (List (List UInt8))) : Option (slices_Clone___string_string__S ⊕ (List (List UInt8))) :=
  Option.bind (app? 16 ([] : (List (List UInt8))) a0) fun x1 =>
    some (.inr x1)
noncomputable def slices_Clone___string_string_ (a0 : (List (List UInt8))) : Option (List (List UInt8)) := (slices_Clone___string_string__0 a0).bind (endO slices_Clone___string_string__step)
abbrev L28_few_S := Empty
def L28_few_step : L28_few_S → Option (L28_few_S ⊕ Bool) := fun s => nomatch s
def L28_few_0 (a0 : api_Card) : Option (L28_few_S ⊕ Bool) :=
  some (.inr (decide ((a0.Abilities.length : Int) ≤ 12)))
noncomputable def L28_few (a0 : api_Card) : Option Bool := (L28_few_0 a0).bind (endO L28_few_step)
abbrev R28_effects_S := Empty
def R28_effects_step : R28_effects_S → Option (R28_effects_S ⊕ Bool) := fun s => nomatch s
def R28_effects_0 (a0 : api_Effect) (a1 : api_Effect) : Option (R28_effects_S ⊕ Bool) :=
  bif (a0.Op == a1.Op) then
    bif eqTs (c_api_Ref a0.Ref) (c_api_Ref a1.Ref) then
      bif eqTs (c_api_Amount a0.Amount) (c_api_Amount a1.Amount) then
        bif (a0.Counter == a1.Counter) then
          bif (a0.Zone == a1.Zone) then
            bif (a0.Card == a1.Card) then
              bif eqTs (c_api_Filter a0.Filter) (c_api_Filter a1.Filter) then
                bif eqTs ((cA6 (cI .i64)) a0.Pool) ((cA6 (cI .i64)) a1.Pool) then
                  Option.bind (R28_mods a0.Mods a1.Mods) fun x9 =>
                    some (.inr x9)
                else
                  some (.inr false)
              else
                some (.inr false)
            else
              some (.inr false)
          else
            some (.inr false)
        else
          some (.inr false)
      else
        some (.inr false)
    else
      some (.inr false)
  else
    some (.inr false)
noncomputable def R28_effects (a0 : api_Effect) (a1 : api_Effect) : Option Bool := (R28_effects_0 a0 a1).bind (endO R28_effects_step)
abbrev base_sameEffect_S := Empty
def base_sameEffect_step : base_sameEffect_S → Option (base_sameEffect_S ⊕ Bool) := fun s => nomatch s
def base_sameEffect_0 (a0 : api_Effect) (a1 : api_Effect) : Option (base_sameEffect_S ⊕ Bool) :=
  bif (a0.Op == a1.Op) then
    bif eqTs (c_api_Ref a0.Ref) (c_api_Ref a1.Ref) then
      bif eqTs (c_api_Amount a0.Amount) (c_api_Amount a1.Amount) then
        bif (a0.Counter == a1.Counter) then
          bif (a0.Zone == a1.Zone) then
            bif (a0.Card == a1.Card) then
              bif eqTs (c_api_Filter a0.Filter) (c_api_Filter a1.Filter) then
                bif eqTs ((cA6 (cI .i64)) a0.Pool) ((cA6 (cI .i64)) a1.Pool) then
                  Option.bind (slices_Equal___api_Mod_api_Mod_ a0.Mods a1.Mods) fun x9 =>
                    some (.inr x9)
                else
                  some (.inr false)
              else
                some (.inr false)
            else
              some (.inr false)
          else
            some (.inr false)
        else
          some (.inr false)
      else
        some (.inr false)
    else
      some (.inr false)
  else
    some (.inr false)
noncomputable def base_sameEffect (a0 : api_Effect) (a1 : api_Effect) : Option Bool := (base_sameEffect_0 a0 a1).bind (endO base_sameEffect_step)
inductive slices_EqualFunc___api_Effect___api_Effect_api_Effect_api_Effect___base_sameEffect_S where
  | L0 (v1 : (List api_Effect)) (v15 : (List api_Effect)) (v16 : Int) (v17 : Int)
def slices_EqualFunc___api_Effect___api_Effect_api_Effect_api_Effect___base_sameEffect_L0 (v1 : (List api_Effect)) (v15 : (List api_Effect)) (v16 : Int) (v17 : Int) : Option (slices_EqualFunc___api_Effect___api_Effect_api_Effect_api_Effect___base_sameEffect_S ⊕ Bool) :=
  bif decide (v17 < v16) then
    Option.bind (idx? v15 v17) fun x3 =>
      Option.bind (idx? v1 v17) fun x5 =>
        Option.bind (base_sameEffect x3 x5) fun x7 =>
          bif (!x7) then
            some (.inr false)
          else
            some (.inl (.L0 v1 v15 v16 (IntKind.wrap .i64 (v17 + 1))))
  else
    some (.inr true)
def slices_EqualFunc___api_Effect___api_Effect_api_Effect_api_Effect___base_sameEffect_step : slices_EqualFunc___api_Effect___api_Effect_api_Effect_api_Effect___base_sameEffect_S → Option (slices_EqualFunc___api_Effect___api_Effect_api_Effect_api_Effect___base_sameEffect_S ⊕ Bool)
  | .L0 v1 v15 v16 v17 => slices_EqualFunc___api_Effect___api_Effect_api_Effect_api_Effect___base_sameEffect_L0 v1 v15 v16 v17
def slices_EqualFunc___api_Effect___api_Effect_api_Effect_api_Effect___base_sameEffect_0 (a0 : (List api_Effect)) (a1 : (List api_Effect)) : Option (slices_EqualFunc___api_Effect___api_Effect_api_Effect_api_Effect___base_sameEffect_S ⊕ Bool) :=
  bif ((a0.length : Int) != (a1.length : Int)) then
    some (.inr false)
  else
    some (.inl (.L0 a1 a0 (a0.length : Int) 0))
noncomputable def slices_EqualFunc___api_Effect___api_Effect_api_Effect_api_Effect___base_sameEffect (a0 : (List api_Effect)) (a1 : (List api_Effect)) : Option Bool := (slices_EqualFunc___api_Effect___api_Effect_api_Effect_api_Effect___base_sameEffect_0 a0 a1).bind (endO slices_EqualFunc___api_Effect___api_Effect_api_Effect_api_Effect___base_sameEffect_step)
abbrev base_sameAbility_S := Empty
def base_sameAbility_step : base_sameAbility_S → Option (base_sameAbility_S ⊕ Bool) := fun s => nomatch s
def base_sameAbility_0 (a0 : api_Ability) (a1 : api_Ability) : Option (base_sameAbility_S ⊕ Bool) :=
  bif (a0.Kind == a1.Kind) then
    bif eqTs (c_api_Filter a0.Filter) (c_api_Filter a1.Filter) then
      Option.bind (slices_Equal___api_Mod_api_Mod_ a0.Mods a1.Mods) fun x3 =>
        bif x3 then
          bif eqTs (c_api_Price a0.Price) (c_api_Price a1.Price) then
            bif (a0.Slow == a1.Slow) then
              bif eqTs (c_api_Trigger a0.Trigger) (c_api_Trigger a1.Trigger) then
                bif (a0.May == a1.May) then
                  Option.bind (slices_Equal___api_Spec_api_Spec_ a0.Specs a1.Specs) fun x10 =>
                    bif x10 then
                      Option.bind (slices_EqualFunc___api_Effect___api_Effect_api_Effect_api_Effect___base_sameEffect a0.Effects a1.Effects) fun x13 =>
                        bif x13 then
                          some (.inr (eqTs (c_api_Replace a0.Replace) (c_api_Replace a1.Replace)))
                        else
                          some (.inr false)
                    else
                      some (.inr false)
                else
                  some (.inr false)
              else
                some (.inr false)
            else
              some (.inr false)
          else
            some (.inr false)
        else
          some (.inr false)
    else
      some (.inr false)
  else
    some (.inr false)
noncomputable def base_sameAbility (a0 : api_Ability) (a1 : api_Ability) : Option Bool := (base_sameAbility_0 a0 a1).bind (endO base_sameAbility_step)
inductive R28_SameAbility_S where
  | L0 (b30000000 : api_Ability) (b30000001 : api_Ability) (v5 : Int)
  | L1 (b30000000 : api_Ability) (b30000001 : api_Ability) (v6 : Int)
def R28_SameAbility_L0 (b30000000 : api_Ability) (b30000001 : api_Ability) (v5 : Int) : Option (R28_SameAbility_S ⊕ Bool) :=
  bif decide (v5 < (b30000000.Specs.length : Int)) then
      Option.bind (idx? b30000000.Specs v5) fun x14 =>
        Option.bind (idx? b30000001.Specs v5) fun x16 =>
          bif (!(eqTs (c_api_Spec x14) (c_api_Spec x16))) then
            some (.inr false)
          else
            some (.inl (.L0 b30000000 b30000001 (IntKind.wrap .i64 (v5 + 1))))
  else
    some (.inl (.L1 b30000000 b30000001 0))
def R28_SameAbility_L1 (b30000000 : api_Ability) (b30000001 : api_Ability) (v6 : Int) : Option (R28_SameAbility_S ⊕ Bool) :=
  bif decide (v6 < (b30000000.Effects.length : Int)) then
      Option.bind (idx? b30000000.Effects v6) fun x20 =>
        Option.bind (idx? b30000001.Effects v6) fun x22 =>
          Option.bind (R28_effects x20 x22) fun x24 =>
            bif (!x24) then
              some (.inr false)
            else
              some (.inl (.L1 b30000000 b30000001 (IntKind.wrap .i64 (v6 + 1))))
  else
    some (.inr true)
def R28_SameAbility_step : R28_SameAbility_S → Option (R28_SameAbility_S ⊕ Bool)
  | .L0 b30000000 b30000001 v5 => R28_SameAbility_L0 b30000000 b30000001 v5
  | .L1 b30000000 b30000001 v6 => R28_SameAbility_L1 b30000000 b30000001 v6
def R28_SameAbility_0 (a0 : api_Ability) (a1 : api_Ability) : Option (R28_SameAbility_S ⊕ Bool) :=
  bif (a0.Kind != a1.Kind) then
    some (.inr false)
  else
    bif (!(eqTs (c_api_Filter a0.Filter) (c_api_Filter a1.Filter))) then
      some (.inr false)
    else
      Option.bind (R28_mods a0.Mods a1.Mods) fun x3 =>
        bif (!x3) then
          some (.inr false)
        else
          bif (!(eqTs (c_api_Price a0.Price) (c_api_Price a1.Price))) then
            some (.inr false)
          else
            bif (!(a0.Slow == a1.Slow)) then
              some (.inr false)
            else
              bif (!(eqTs (c_api_Trigger a0.Trigger) (c_api_Trigger a1.Trigger))) then
                some (.inr false)
              else
                bif (!(a0.May == a1.May)) then
                  some (.inr false)
                else
                  bif (!(eqTs (c_api_Replace a0.Replace) (c_api_Replace a1.Replace))) then
                    some (.inr false)
                  else
                    bif ((a0.Specs.length : Int) != (a1.Specs.length : Int)) then
                      some (.inr false)
                    else
                      bif ((a0.Effects.length : Int) != (a1.Effects.length : Int)) then
                        some (.inr false)
                      else
                        some (.inl (.L0 a0 a1 0))
noncomputable def R28_SameAbility (a0 : api_Ability) (a1 : api_Ability) : Option Bool := (R28_SameAbility_0 a0 a1).bind (endO R28_SameAbility_step)
inductive R28_Same_S where
  | L0 (b30000000 : api_Traits) (b30000001 : api_Traits) (v5 : Int)
  | L1 (b30000000 : api_Traits) (b30000001 : api_Traits) (v6 : Int)
def R28_Same_L0 (b30000000 : api_Traits) (b30000001 : api_Traits) (v5 : Int) : Option (R28_Same_S ⊕ Bool) :=
  bif decide (v5 < (b30000000.Line.Subs.length : Int)) then
      Option.bind (idx? b30000000.Line.Subs v5) fun x13 =>
        Option.bind (idx? b30000001.Line.Subs v5) fun x15 =>
          bif (!(x13 == x15)) then
            some (.inr false)
          else
            some (.inl (.L0 b30000000 b30000001 (IntKind.wrap .i64 (v5 + 1))))
  else
    some (.inl (.L1 b30000000 b30000001 0))
def R28_Same_L1 (b30000000 : api_Traits) (b30000001 : api_Traits) (v6 : Int) : Option (R28_Same_S ⊕ Bool) :=
  bif decide (v6 < (b30000000.Abilities.length : Int)) then
      Option.bind (idx? b30000000.Abilities v6) fun x19 =>
        Option.bind (idx? b30000001.Abilities v6) fun x21 =>
          Option.bind (R28_SameAbility x19 x21) fun x23 =>
            bif (!x23) then
              some (.inr false)
            else
              some (.inl (.L1 b30000000 b30000001 (IntKind.wrap .i64 (v6 + 1))))
  else
    some (.inr true)
def R28_Same_step : R28_Same_S → Option (R28_Same_S ⊕ Bool)
  | .L0 b30000000 b30000001 v5 => R28_Same_L0 b30000000 b30000001 v5
  | .L1 b30000000 b30000001 v6 => R28_Same_L1 b30000000 b30000001 v6
def R28_Same_0 (a0 : api_Traits) (a1 : api_Traits) : Option (R28_Same_S ⊕ Bool) :=
  bif (!(a0.Name == a1.Name)) then
    some (.inr false)
  else
    bif (!(eqTs (c_api_Cost a0.Cost) (c_api_Cost a1.Cost))) then
      some (.inr false)
    else
      bif (a0.Colors != a1.Colors) then
        some (.inr false)
      else
        bif (a0.Power != a1.Power) then
          some (.inr false)
        else
          bif (a0.Tough != a1.Tough) then
            some (.inr false)
          else
            bif (a0.Keys != a1.Keys) then
              some (.inr false)
            else
              bif (a0.Control != a1.Control) then
                some (.inr false)
              else
                bif (a0.Line.Super != a1.Line.Super) then
                  some (.inr false)
                else
                  bif (a0.Line.Types != a1.Line.Types) then
                    some (.inr false)
                  else
                    bif ((a0.Line.Subs.length : Int) != (a1.Line.Subs.length : Int)) then
                      some (.inr false)
                    else
                      bif ((a0.Abilities.length : Int) != (a1.Abilities.length : Int)) then
                        some (.inr false)
                      else
                        some (.inl (.L0 a0 a1 0))
noncomputable def R28_Same (a0 : api_Traits) (a1 : api_Traits) : Option Bool := (R28_Same_0 a0 a1).bind (endO R28_Same_step)
inductive slices_EqualFunc___api_Ability___api_Ability_api_Ability_api_Ability___base_sameAbility_S where
  | L0 (v1 : (List api_Ability)) (v15 : (List api_Ability)) (v16 : Int) (v17 : Int)
def slices_EqualFunc___api_Ability___api_Ability_api_Ability_api_Ability___base_sameAbility_L0 (v1 : (List api_Ability)) (v15 : (List api_Ability)) (v16 : Int) (v17 : Int) : Option (slices_EqualFunc___api_Ability___api_Ability_api_Ability_api_Ability___base_sameAbility_S ⊕ Bool) :=
  bif decide (v17 < v16) then
    Option.bind (idx? v15 v17) fun x3 =>
      Option.bind (idx? v1 v17) fun x5 =>
        Option.bind (base_sameAbility x3 x5) fun x7 =>
          bif (!x7) then
            some (.inr false)
          else
            some (.inl (.L0 v1 v15 v16 (IntKind.wrap .i64 (v17 + 1))))
  else
    some (.inr true)
def slices_EqualFunc___api_Ability___api_Ability_api_Ability_api_Ability___base_sameAbility_step : slices_EqualFunc___api_Ability___api_Ability_api_Ability_api_Ability___base_sameAbility_S → Option (slices_EqualFunc___api_Ability___api_Ability_api_Ability_api_Ability___base_sameAbility_S ⊕ Bool)
  | .L0 v1 v15 v16 v17 => slices_EqualFunc___api_Ability___api_Ability_api_Ability_api_Ability___base_sameAbility_L0 v1 v15 v16 v17
def slices_EqualFunc___api_Ability___api_Ability_api_Ability_api_Ability___base_sameAbility_0 (a0 : (List api_Ability)) (a1 : (List api_Ability)) : Option (slices_EqualFunc___api_Ability___api_Ability_api_Ability_api_Ability___base_sameAbility_S ⊕ Bool) :=
  bif ((a0.length : Int) != (a1.length : Int)) then
    some (.inr false)
  else
    some (.inl (.L0 a1 a0 (a0.length : Int) 0))
noncomputable def slices_EqualFunc___api_Ability___api_Ability_api_Ability_api_Ability___base_sameAbility (a0 : (List api_Ability)) (a1 : (List api_Ability)) : Option Bool := (slices_EqualFunc___api_Ability___api_Ability_api_Ability_api_Ability___base_sameAbility_0 a0 a1).bind (endO slices_EqualFunc___api_Ability___api_Ability_api_Ability_api_Ability___base_sameAbility_step)
abbrev base_Same_S := Empty
def base_Same_step : base_Same_S → Option (base_Same_S ⊕ Bool) := fun s => nomatch s
def base_Same_0 (a0 : api_Traits) (a1 : api_Traits) : Option (base_Same_S ⊕ Bool) :=
  bif (a0.Name == a1.Name) then
    bif eqTs (c_api_Cost a0.Cost) (c_api_Cost a1.Cost) then
      bif (a0.Colors == a1.Colors) then
        bif (a0.Line.Super == a1.Line.Super) then
          bif (a0.Line.Types == a1.Line.Types) then
            Option.bind (slices_Equal___string_string_ a0.Line.Subs a1.Line.Subs) fun x6 =>
              bif x6 then
                bif (a0.Power == a1.Power) then
                  bif (a0.Tough == a1.Tough) then
                    bif (a0.Keys == a1.Keys) then
                      bif (a0.Control == a1.Control) then
                        Option.bind (slices_EqualFunc___api_Ability___api_Ability_api_Ability_api_Ability___base_sameAbility a0.Abilities a1.Abilities) fun x13 =>
                          some (.inr x13)
                      else
                        some (.inr false)
                    else
                      some (.inr false)
                  else
                    some (.inr false)
                else
                  some (.inr false)
              else
                some (.inr false)
          else
            some (.inr false)
        else
          some (.inr false)
      else
        some (.inr false)
    else
      some (.inr false)
  else
    some (.inr false)
noncomputable def base_Same (a0 : api_Traits) (a1 : api_Traits) : Option Bool := (base_Same_0 a0 a1).bind (endO base_Same_step)
inductive mana_Is_S where
  | L0 (b30000000 : api_Cost) (v6 : (A5 Int)) (v7 : Int)
def mana_Is_L0 (b30000000 : api_Cost) (v6 : (A5 Int)) (v7 : Int) : Option (mana_Is_S ⊕ Bool) :=
  bif decide (v7 < 5) then
    Option.bind (idx? (A5.list v6) v7) fun x2 =>
      bif decide (x2 < 0) then
        some (.inr false)
      else
        bif decide (x2 > 9) then
          some (.inr false)
        else
          some (.inl (.L0 b30000000 v6 (IntKind.wrap .i64 (v7 + 1))))
  else
    bif decide (b30000000.Generic ≥ 0) then
      bif decide (b30000000.Generic ≤ 99) then
        bif decide (b30000000.X ≥ 0) then
          some (.inr (decide (b30000000.X ≤ 2)))
        else
          some (.inr false)
      else
        some (.inr false)
    else
      some (.inr false)
def mana_Is_step : mana_Is_S → Option (mana_Is_S ⊕ Bool)
  | .L0 b30000000 v6 v7 => mana_Is_L0 b30000000 v6 v7
def mana_Is_0 (a0 : api_Cost) : Option (mana_Is_S ⊕ Bool) :=
  some (.inl (.L0 a0 a0.Color 0))
noncomputable def mana_Is (a0 : api_Cost) : Option Bool := (mana_Is_0 a0).bind (endO mana_Is_step)
inductive R08_Is_S where
  | L0 (b30000000 : api_Cost) (v3 : Int)
def R08_Is_L0 (b30000000 : api_Cost) (v3 : Int) : Option (R08_Is_S ⊕ Bool) :=
  bif decide (v3 < 5) then
    Option.bind (idx? (A5.list b30000000.Color) v3) fun x6 =>
      bif decide (x6 < 0) then
        some (.inr false)
      else
        Option.bind (idx? (A5.list b30000000.Color) v3) fun x9 =>
          bif decide (x9 > 9) then
            some (.inr false)
          else
            some (.inl (.L0 b30000000 (IntKind.wrap .i64 (v3 + 1))))
  else
    some (.inr true)
def R08_Is_step : R08_Is_S → Option (R08_Is_S ⊕ Bool)
  | .L0 b30000000 v3 => R08_Is_L0 b30000000 v3
def R08_Is_0 (a0 : api_Cost) : Option (R08_Is_S ⊕ Bool) :=
  bif decide (a0.Generic < 0) then
    some (.inr false)
  else
    bif decide (a0.Generic > 99) then
      some (.inr false)
    else
      bif decide (a0.X < 0) then
        some (.inr false)
      else
        bif decide (a0.X > 2) then
          some (.inr false)
        else
          some (.inl (.L0 a0 0))
noncomputable def R08_Is (a0 : api_Cost) : Option Bool := (R08_Is_0 a0).bind (endO R08_Is_step)
inductive mana_Colors_S where
  | L0 (v3 : Int) (v16 : (A5 Int)) (v17 : Int)
def mana_Colors_L0 (v3 : Int) (v16 : (A5 Int)) (v17 : Int) : Option (mana_Colors_S ⊕ Int) :=
  bif decide (v17 < 5) then
    Option.bind (idx? (A5.list v16) v17) fun x6 =>
      bif decide (x6 > 0) then
        Option.bind (ok? (decide (¬ v17 < 0))) fun x9 =>
          some (.inl (.L0 (bitOp .or .i64 v3 (shlI .i64 1 v17)) v16 (IntKind.wrap .i64 (v17 + 1))))
      else
        some (.inl (.L0 v3 v16 (IntKind.wrap .i64 (v17 + 1))))
  else
    some (.inr v3)
def mana_Colors_step : mana_Colors_S → Option (mana_Colors_S ⊕ Int)
  | .L0 v3 v16 v17 => mana_Colors_L0 v3 v16 v17
def mana_Colors_0 (a0 : api_Cost) : Option (mana_Colors_S ⊕ Int) :=
  Option.bind (mana_Is a0) fun x1 =>
    bif (!x1) then
      some (.inr 0)
    else
      bif eqTs ((cA5 (cI .i64)) a0.Color) ((cA5 (cI .i64)) (⟨0, 0, 0, 0, 0⟩ : (A5 Int))) then
        some (.inr 0)
      else
        some (.inl (.L0 0 a0.Color 0))
noncomputable def mana_Colors (a0 : api_Cost) : Option Int := (mana_Colors_0 a0).bind (endO mana_Colors_step)
inductive R08_Colors_S where
  | L0 (b30000000 : api_Cost) (v3 : Int) (v4 : Int) (v5 : Int)
def R08_Colors_L0 (b30000000 : api_Cost) (v3 : Int) (v4 : Int) (v5 : Int) : Option (R08_Colors_S ⊕ Int) :=
  bif decide (v5 < 5) then
    Option.bind (idx? (A5.list b30000000.Color) v5) fun x5 =>
      bif decide (x5 > 0) then
        some (.inl (.L0 b30000000 (IntKind.wrap .i64 (v3 + v4)) (IntKind.wrap .i64 (2 * v4)) (IntKind.wrap .i64 (v5 + 1))))
      else
        some (.inl (.L0 b30000000 v3 (IntKind.wrap .i64 (2 * v4)) (IntKind.wrap .i64 (v5 + 1))))
  else
    some (.inr v3)
def R08_Colors_step : R08_Colors_S → Option (R08_Colors_S ⊕ Int)
  | .L0 b30000000 v3 v4 v5 => R08_Colors_L0 b30000000 v3 v4 v5
def R08_Colors_0 (a0 : api_Cost) : Option (R08_Colors_S ⊕ Int) :=
  Option.bind (R08_Is a0) fun x1 =>
    bif (!x1) then
      some (.inr 0)
    else
      some (.inl (.L0 a0 0 1 0))
noncomputable def R08_Colors (a0 : api_Cost) : Option Int := (R08_Colors_0 a0).bind (endO R08_Colors_step)
inductive R28_ability_S where
  | L0 (b30000000 : api_Ability) (b30000001 : api_Ability) (b30000002 : api_Ability) (v4 : Int)
def R28_ability_L0 (b30000000 : api_Ability) (b30000001 : api_Ability) (b30000002 : api_Ability) (v4 : Int) : Option (R28_ability_S ⊕ api_Ability) :=
  bif decide (v4 < (b30000000.Effects.length : Int)) then
    Option.bind (idx? b30000000.Effects v4) fun x6 =>
      Option.bind (app? 176 ([] : (List api_Mod)) x6.Mods) fun x8 =>
        Option.bind (app? 560 b30000002.Effects [(⟨x6.Op, x6.Ref, x6.Amount, x6.Counter, x6.Zone, x6.Card, x6.Filter, x6.Pool, x8⟩ : api_Effect)]) fun x10 =>
          some (.inl (.L0 b30000000 b30000001 (⟨b30000002.Kind, b30000002.Filter, b30000002.Mods, b30000002.Price, b30000002.Slow, b30000002.Trigger, b30000002.May, b30000002.Specs, x10, b30000002.Replace⟩ : api_Ability) (IntKind.wrap .i64 (v4 + 1))))
  else
    some (.inr b30000002)
def R28_ability_step : R28_ability_S → Option (R28_ability_S ⊕ api_Ability)
  | .L0 b30000000 b30000001 b30000002 v4 => R28_ability_L0 b30000000 b30000001 b30000002 v4
def R28_ability_0 (a0 : api_Ability) : Option (R28_ability_S ⊕ api_Ability) :=
  Option.bind (app? 176 ([] : (List api_Mod)) a0.Mods) fun x1 =>
    Option.bind (app? 144 ([] : (List api_Spec)) a0.Specs) fun x3 =>
      some (.inl (.L0 a0 (⟨0, (⟨0, 0, 0, 0, 0, 0, 0, ([] : List UInt8), 0, 0, (⟨0, 0⟩ : api_Bound), (⟨0, 0⟩ : api_Bound), (⟨0, 0⟩ : api_Bound)⟩ : api_Filter), ([] : (List api_Mod)), (⟨(⟨0, 0, (⟨0, 0, 0, 0, 0⟩ : (A5 Int))⟩ : api_Cost), false, false, 0⟩ : api_Price), false, (⟨0, 0, (⟨0, 0, 0, 0, 0, 0, 0, ([] : List UInt8), 0, 0, (⟨0, 0⟩ : api_Bound), (⟨0, 0⟩ : api_Bound), (⟨0, 0⟩ : api_Bound)⟩ : api_Filter)⟩ : api_Trigger), false, ([] : (List api_Spec)), ([] : (List api_Effect)), (⟨0, 0, (⟨0, 0, 0, 0, 0, 0, 0, ([] : List UInt8), 0, 0, (⟨0, 0⟩ : api_Bound), (⟨0, 0⟩ : api_Bound), (⟨0, 0⟩ : api_Bound)⟩ : api_Filter), 0, 0, 0, 0⟩ : api_Replace)⟩ : api_Ability) (⟨a0.Kind, a0.Filter, x1, a0.Price, a0.Slow, a0.Trigger, a0.May, x3, ([] : (List api_Effect)), a0.Replace⟩ : api_Ability) 0))
noncomputable def R28_ability (a0 : api_Ability) : Option api_Ability := (R28_ability_0 a0).bind (endO R28_ability_step)
inductive base_copyAbility_S where
  | L0 (b30000000 : api_Ability) (b30000001 : api_Ability) (v18 : Int) (v19 : Int)
def base_copyAbility_L0 (b30000000 : api_Ability) (b30000001 : api_Ability) (v18 : Int) (v19 : Int) : Option (base_copyAbility_S ⊕ api_Ability) :=
  bif decide (v19 < v18) then
      Option.bind (idx? b30000000.Effects v19) fun x8 =>
          Option.bind (slices_Clone___api_Mod_api_Mod_ x8.Mods) fun x10 =>
              Option.bind (set? b30000000.Effects v19 (⟨x8.Op, x8.Ref, x8.Amount, x8.Counter, x8.Zone, x8.Card, x8.Filter, x8.Pool, x10⟩ : api_Effect)) fun x12 =>
                  some (.inl (.L0 (⟨b30000000.Kind, b30000000.Filter, b30000000.Mods, b30000000.Price, b30000000.Slow, b30000000.Trigger, b30000000.May, b30000000.Specs, x12, b30000000.Replace⟩ : api_Ability) b30000001 v18 (IntKind.wrap .i64 (v19 + 1))))
  else
    some (.inr b30000000)
def base_copyAbility_step : base_copyAbility_S → Option (base_copyAbility_S ⊕ api_Ability)
  | .L0 b30000000 b30000001 v18 v19 => base_copyAbility_L0 b30000000 b30000001 v18 v19
def base_copyAbility_0 (a0 : api_Ability) : Option (base_copyAbility_S ⊕ api_Ability) :=
  Option.bind (slices_Clone___api_Mod_api_Mod_ a0.Mods) fun x1 =>
    Option.bind (slices_Clone___api_Spec_api_Spec_ a0.Specs) fun x3 =>
      Option.bind (slices_Clone___api_Effect_api_Effect_ a0.Effects) fun x5 =>
        some (.inl (.L0 (⟨a0.Kind, a0.Filter, x1, a0.Price, a0.Slow, a0.Trigger, a0.May, x3, x5, a0.Replace⟩ : api_Ability) (⟨0, (⟨0, 0, 0, 0, 0, 0, 0, ([] : List UInt8), 0, 0, (⟨0, 0⟩ : api_Bound), (⟨0, 0⟩ : api_Bound), (⟨0, 0⟩ : api_Bound)⟩ : api_Filter), ([] : (List api_Mod)), (⟨(⟨0, 0, (⟨0, 0, 0, 0, 0⟩ : (A5 Int))⟩ : api_Cost), false, false, 0⟩ : api_Price), false, (⟨0, 0, (⟨0, 0, 0, 0, 0, 0, 0, ([] : List UInt8), 0, 0, (⟨0, 0⟩ : api_Bound), (⟨0, 0⟩ : api_Bound), (⟨0, 0⟩ : api_Bound)⟩ : api_Filter)⟩ : api_Trigger), false, ([] : (List api_Spec)), ([] : (List api_Effect)), (⟨0, 0, (⟨0, 0, 0, 0, 0, 0, 0, ([] : List UInt8), 0, 0, (⟨0, 0⟩ : api_Bound), (⟨0, 0⟩ : api_Bound), (⟨0, 0⟩ : api_Bound)⟩ : api_Filter), 0, 0, 0, 0⟩ : api_Replace)⟩ : api_Ability) (x5.length : Int) 0))
noncomputable def base_copyAbility (a0 : api_Ability) : Option api_Ability := (base_copyAbility_0 a0).bind (endO base_copyAbility_step)
inductive base_Printed_S where
  | L0 (b30000000 : api_Traits) (b30000001 : api_Traits) (v32 : (List api_Ability)) (v33 : Int) (v34 : Int)
def base_Printed_L0 (b30000000 : api_Traits) (b30000001 : api_Traits) (v32 : (List api_Ability)) (v33 : Int) (v34 : Int) : Option (base_Printed_S ⊕ api_Traits) :=
  bif decide (v34 < v33) then
    Option.bind (idx? v32 v34) fun x6 =>
        Option.bind (base_copyAbility x6) fun x8 =>
          Option.bind (app? 640 b30000001.Abilities [x8]) fun x10 =>
            some (.inl (.L0 b30000000 (⟨b30000001.Name, b30000001.Cost, b30000001.Colors, b30000001.Line, b30000001.Power, b30000001.Tough, b30000001.Keys, x10, b30000001.Control⟩ : api_Traits) v32 v33 (IntKind.wrap .i64 (v34 + 1))))
  else
    some (.inr b30000001)
def base_Printed_step : base_Printed_S → Option (base_Printed_S ⊕ api_Traits)
  | .L0 b30000000 b30000001 v32 v33 v34 => base_Printed_L0 b30000000 b30000001 v32 v33 v34
def base_Printed_0 (a0 : api_Card) : Option (base_Printed_S ⊕ api_Traits) :=
    Option.bind (mana_Colors a0.Cost) fun x1 =>
      Option.bind (slices_Clone___string_string_ a0.Line.Subs) fun x3 =>
        some (.inl (.L0 (⟨([] : List UInt8), (⟨0, 0, (⟨0, 0, 0, 0, 0⟩ : (A5 Int))⟩ : api_Cost), 0, (⟨0, 0, ([] : (List (List UInt8)))⟩ : api_Line), 0, 0, 0, ([] : (List api_Ability)), 0⟩ : api_Traits) (⟨a0.Name, a0.Cost, bitOp .or .i64 x1 a0.Color, (⟨a0.Line.Super, a0.Line.Types, x3⟩ : api_Line), a0.Power, a0.Tough, a0.Keys, ([] : (List api_Ability)), 0⟩ : api_Traits) a0.Abilities (a0.Abilities.length : Int) 0))
noncomputable def base_Printed (a0 : api_Card) : Option api_Traits := (base_Printed_0 a0).bind (endO base_Printed_step)
inductive R28_Printed_S where
  | L0 (b30000000 : api_Card) (b30000001 : api_Traits) (b30000002 : api_Traits) (v4 : Int)
def R28_Printed_L0 (b30000000 : api_Card) (b30000001 : api_Traits) (b30000002 : api_Traits) (v4 : Int) : Option (R28_Printed_S ⊕ api_Traits) :=
  bif decide (v4 < (b30000000.Abilities.length : Int)) then
      Option.bind (idx? b30000000.Abilities v4) fun x6 =>
        Option.bind (R28_ability x6) fun x8 =>
          Option.bind (app? 640 b30000002.Abilities [x8]) fun x10 =>
            some (.inl (.L0 b30000000 b30000001 (⟨b30000002.Name, b30000002.Cost, b30000002.Colors, b30000002.Line, b30000002.Power, b30000002.Tough, b30000002.Keys, x10, b30000002.Control⟩ : api_Traits) (IntKind.wrap .i64 (v4 + 1))))
  else
    some (.inr b30000002)
def R28_Printed_step : R28_Printed_S → Option (R28_Printed_S ⊕ api_Traits)
  | .L0 b30000000 b30000001 b30000002 v4 => R28_Printed_L0 b30000000 b30000001 b30000002 v4
def R28_Printed_0 (a0 : api_Card) : Option (R28_Printed_S ⊕ api_Traits) :=
    Option.bind (R08_Colors a0.Cost) fun x1 =>
      Option.bind (app? 16 ([] : (List (List UInt8))) a0.Line.Subs) fun x3 =>
        some (.inl (.L0 a0 (⟨([] : List UInt8), (⟨0, 0, (⟨0, 0, 0, 0, 0⟩ : (A5 Int))⟩ : api_Cost), 0, (⟨0, 0, ([] : (List (List UInt8)))⟩ : api_Line), 0, 0, 0, ([] : (List api_Ability)), 0⟩ : api_Traits) (⟨a0.Name, a0.Cost, bitOp .or .i64 x1 a0.Color, (⟨a0.Line.Super, a0.Line.Types, x3⟩ : api_Line), a0.Power, a0.Tough, a0.Keys, ([] : (List api_Ability)), 0⟩ : api_Traits) 0))
noncomputable def R28_Printed (a0 : api_Card) : Option api_Traits := (R28_Printed_0 a0).bind (endO R28_Printed_step)
abbrev base_Of_S := Empty
def base_Of_step : base_Of_S → Option (base_Of_S ⊕ api_Traits) := fun s => nomatch s
def base_Of_0 (a0 : (List api_Card)) (a1 : api_Object) : Option (base_Of_S ⊕ api_Traits) :=
  bif decide (a1.Copy < 0) then
    bif decide (a1.Card ≥ 0) then
      bif decide (a1.Card < (a0.length : Int)) then
        Option.bind (idx? a0 a1.Card) fun x4 =>
          Option.bind (base_Printed x4) fun x6 =>
            bif (a1.Zone == 0) then
              some (.inr (⟨x6.Name, x6.Cost, x6.Colors, x6.Line, x6.Power, x6.Tough, x6.Keys, x6.Abilities, a1.Control⟩ : api_Traits))
            else
              bif (a1.Zone == 5) then
                some (.inr (⟨x6.Name, x6.Cost, x6.Colors, x6.Line, x6.Power, x6.Tough, x6.Keys, x6.Abilities, a1.Control⟩ : api_Traits))
              else
                some (.inr (⟨x6.Name, x6.Cost, x6.Colors, x6.Line, x6.Power, x6.Tough, x6.Keys, x6.Abilities, a1.Owner⟩ : api_Traits))
      else
        bif (a1.Zone == 0) then
          some (.inr (⟨([] : List UInt8), (⟨0, 0, (⟨0, 0, 0, 0, 0⟩ : (A5 Int))⟩ : api_Cost), 0, (⟨0, 0, ([] : (List (List UInt8)))⟩ : api_Line), 0, 0, 0, ([] : (List api_Ability)), a1.Control⟩ : api_Traits))
        else
          bif (a1.Zone == 5) then
            some (.inr (⟨([] : List UInt8), (⟨0, 0, (⟨0, 0, 0, 0, 0⟩ : (A5 Int))⟩ : api_Cost), 0, (⟨0, 0, ([] : (List (List UInt8)))⟩ : api_Line), 0, 0, 0, ([] : (List api_Ability)), a1.Control⟩ : api_Traits))
          else
            some (.inr (⟨([] : List UInt8), (⟨0, 0, (⟨0, 0, 0, 0, 0⟩ : (A5 Int))⟩ : api_Cost), 0, (⟨0, 0, ([] : (List (List UInt8)))⟩ : api_Line), 0, 0, 0, ([] : (List api_Ability)), a1.Owner⟩ : api_Traits))
    else
      bif (a1.Zone == 0) then
        some (.inr (⟨([] : List UInt8), (⟨0, 0, (⟨0, 0, 0, 0, 0⟩ : (A5 Int))⟩ : api_Cost), 0, (⟨0, 0, ([] : (List (List UInt8)))⟩ : api_Line), 0, 0, 0, ([] : (List api_Ability)), a1.Control⟩ : api_Traits))
      else
        bif (a1.Zone == 5) then
          some (.inr (⟨([] : List UInt8), (⟨0, 0, (⟨0, 0, 0, 0, 0⟩ : (A5 Int))⟩ : api_Cost), 0, (⟨0, 0, ([] : (List (List UInt8)))⟩ : api_Line), 0, 0, 0, ([] : (List api_Ability)), a1.Control⟩ : api_Traits))
        else
          some (.inr (⟨([] : List UInt8), (⟨0, 0, (⟨0, 0, 0, 0, 0⟩ : (A5 Int))⟩ : api_Cost), 0, (⟨0, 0, ([] : (List (List UInt8)))⟩ : api_Line), 0, 0, 0, ([] : (List api_Ability)), a1.Owner⟩ : api_Traits))
  else
    bif decide (a1.Copy ≥ 0) then
      bif decide (a1.Copy < (a0.length : Int)) then
        Option.bind (idx? a0 a1.Copy) fun x16 =>
          Option.bind (base_Printed x16) fun x18 =>
            bif (a1.Zone == 0) then
              some (.inr (⟨x18.Name, x18.Cost, x18.Colors, x18.Line, x18.Power, x18.Tough, x18.Keys, x18.Abilities, a1.Control⟩ : api_Traits))
            else
              bif (a1.Zone == 5) then
                some (.inr (⟨x18.Name, x18.Cost, x18.Colors, x18.Line, x18.Power, x18.Tough, x18.Keys, x18.Abilities, a1.Control⟩ : api_Traits))
              else
                some (.inr (⟨x18.Name, x18.Cost, x18.Colors, x18.Line, x18.Power, x18.Tough, x18.Keys, x18.Abilities, a1.Owner⟩ : api_Traits))
      else
        bif (a1.Zone == 0) then
          some (.inr (⟨([] : List UInt8), (⟨0, 0, (⟨0, 0, 0, 0, 0⟩ : (A5 Int))⟩ : api_Cost), 0, (⟨0, 0, ([] : (List (List UInt8)))⟩ : api_Line), 0, 0, 0, ([] : (List api_Ability)), a1.Control⟩ : api_Traits))
        else
          bif (a1.Zone == 5) then
            some (.inr (⟨([] : List UInt8), (⟨0, 0, (⟨0, 0, 0, 0, 0⟩ : (A5 Int))⟩ : api_Cost), 0, (⟨0, 0, ([] : (List (List UInt8)))⟩ : api_Line), 0, 0, 0, ([] : (List api_Ability)), a1.Control⟩ : api_Traits))
          else
            some (.inr (⟨([] : List UInt8), (⟨0, 0, (⟨0, 0, 0, 0, 0⟩ : (A5 Int))⟩ : api_Cost), 0, (⟨0, 0, ([] : (List (List UInt8)))⟩ : api_Line), 0, 0, 0, ([] : (List api_Ability)), a1.Owner⟩ : api_Traits))
    else
      bif (a1.Zone == 0) then
        some (.inr (⟨([] : List UInt8), (⟨0, 0, (⟨0, 0, 0, 0, 0⟩ : (A5 Int))⟩ : api_Cost), 0, (⟨0, 0, ([] : (List (List UInt8)))⟩ : api_Line), 0, 0, 0, ([] : (List api_Ability)), a1.Control⟩ : api_Traits))
      else
        bif (a1.Zone == 5) then
          some (.inr (⟨([] : List UInt8), (⟨0, 0, (⟨0, 0, 0, 0, 0⟩ : (A5 Int))⟩ : api_Cost), 0, (⟨0, 0, ([] : (List (List UInt8)))⟩ : api_Line), 0, 0, 0, ([] : (List api_Ability)), a1.Control⟩ : api_Traits))
        else
          some (.inr (⟨([] : List UInt8), (⟨0, 0, (⟨0, 0, 0, 0, 0⟩ : (A5 Int))⟩ : api_Cost), 0, (⟨0, 0, ([] : (List (List UInt8)))⟩ : api_Line), 0, 0, 0, ([] : (List api_Ability)), a1.Owner⟩ : api_Traits))
noncomputable def base_Of (a0 : (List api_Card)) (a1 : api_Object) : Option api_Traits := (base_Of_0 a0 a1).bind (endO base_Of_step)
abbrev R28_Of_S := Empty
def R28_Of_step : R28_Of_S → Option (R28_Of_S ⊕ api_Traits) := fun s => nomatch s
def R28_Of_0 (a0 : (List api_Card)) (a1 : api_Object) : Option (R28_Of_S ⊕ api_Traits) :=
  bif decide (a1.Copy < 0) then
    bif decide (a1.Card ≥ 0) then
      bif decide (a1.Card < (a0.length : Int)) then
        Option.bind (idx? a0 a1.Card) fun x4 =>
          Option.bind (R28_Printed x4) fun x6 =>
            bif (a1.Zone == 0) then
              some (.inr (⟨x6.Name, x6.Cost, x6.Colors, x6.Line, x6.Power, x6.Tough, x6.Keys, x6.Abilities, a1.Control⟩ : api_Traits))
            else
              bif (a1.Zone == 5) then
                some (.inr (⟨x6.Name, x6.Cost, x6.Colors, x6.Line, x6.Power, x6.Tough, x6.Keys, x6.Abilities, a1.Control⟩ : api_Traits))
              else
                some (.inr (⟨x6.Name, x6.Cost, x6.Colors, x6.Line, x6.Power, x6.Tough, x6.Keys, x6.Abilities, a1.Owner⟩ : api_Traits))
      else
        bif (a1.Zone == 0) then
          some (.inr (⟨([] : List UInt8), (⟨0, 0, (⟨0, 0, 0, 0, 0⟩ : (A5 Int))⟩ : api_Cost), 0, (⟨0, 0, ([] : (List (List UInt8)))⟩ : api_Line), 0, 0, 0, ([] : (List api_Ability)), a1.Control⟩ : api_Traits))
        else
          bif (a1.Zone == 5) then
            some (.inr (⟨([] : List UInt8), (⟨0, 0, (⟨0, 0, 0, 0, 0⟩ : (A5 Int))⟩ : api_Cost), 0, (⟨0, 0, ([] : (List (List UInt8)))⟩ : api_Line), 0, 0, 0, ([] : (List api_Ability)), a1.Control⟩ : api_Traits))
          else
            some (.inr (⟨([] : List UInt8), (⟨0, 0, (⟨0, 0, 0, 0, 0⟩ : (A5 Int))⟩ : api_Cost), 0, (⟨0, 0, ([] : (List (List UInt8)))⟩ : api_Line), 0, 0, 0, ([] : (List api_Ability)), a1.Owner⟩ : api_Traits))
    else
      bif (a1.Zone == 0) then
        some (.inr (⟨([] : List UInt8), (⟨0, 0, (⟨0, 0, 0, 0, 0⟩ : (A5 Int))⟩ : api_Cost), 0, (⟨0, 0, ([] : (List (List UInt8)))⟩ : api_Line), 0, 0, 0, ([] : (List api_Ability)), a1.Control⟩ : api_Traits))
      else
        bif (a1.Zone == 5) then
          some (.inr (⟨([] : List UInt8), (⟨0, 0, (⟨0, 0, 0, 0, 0⟩ : (A5 Int))⟩ : api_Cost), 0, (⟨0, 0, ([] : (List (List UInt8)))⟩ : api_Line), 0, 0, 0, ([] : (List api_Ability)), a1.Control⟩ : api_Traits))
        else
          some (.inr (⟨([] : List UInt8), (⟨0, 0, (⟨0, 0, 0, 0, 0⟩ : (A5 Int))⟩ : api_Cost), 0, (⟨0, 0, ([] : (List (List UInt8)))⟩ : api_Line), 0, 0, 0, ([] : (List api_Ability)), a1.Owner⟩ : api_Traits))
  else
    bif decide (a1.Copy ≥ 0) then
      bif decide (a1.Copy < (a0.length : Int)) then
        Option.bind (idx? a0 a1.Copy) fun x16 =>
          Option.bind (R28_Printed x16) fun x18 =>
            bif (a1.Zone == 0) then
              some (.inr (⟨x18.Name, x18.Cost, x18.Colors, x18.Line, x18.Power, x18.Tough, x18.Keys, x18.Abilities, a1.Control⟩ : api_Traits))
            else
              bif (a1.Zone == 5) then
                some (.inr (⟨x18.Name, x18.Cost, x18.Colors, x18.Line, x18.Power, x18.Tough, x18.Keys, x18.Abilities, a1.Control⟩ : api_Traits))
              else
                some (.inr (⟨x18.Name, x18.Cost, x18.Colors, x18.Line, x18.Power, x18.Tough, x18.Keys, x18.Abilities, a1.Owner⟩ : api_Traits))
      else
        bif (a1.Zone == 0) then
          some (.inr (⟨([] : List UInt8), (⟨0, 0, (⟨0, 0, 0, 0, 0⟩ : (A5 Int))⟩ : api_Cost), 0, (⟨0, 0, ([] : (List (List UInt8)))⟩ : api_Line), 0, 0, 0, ([] : (List api_Ability)), a1.Control⟩ : api_Traits))
        else
          bif (a1.Zone == 5) then
            some (.inr (⟨([] : List UInt8), (⟨0, 0, (⟨0, 0, 0, 0, 0⟩ : (A5 Int))⟩ : api_Cost), 0, (⟨0, 0, ([] : (List (List UInt8)))⟩ : api_Line), 0, 0, 0, ([] : (List api_Ability)), a1.Control⟩ : api_Traits))
          else
            some (.inr (⟨([] : List UInt8), (⟨0, 0, (⟨0, 0, 0, 0, 0⟩ : (A5 Int))⟩ : api_Cost), 0, (⟨0, 0, ([] : (List (List UInt8)))⟩ : api_Line), 0, 0, 0, ([] : (List api_Ability)), a1.Owner⟩ : api_Traits))
    else
      bif (a1.Zone == 0) then
        some (.inr (⟨([] : List UInt8), (⟨0, 0, (⟨0, 0, 0, 0, 0⟩ : (A5 Int))⟩ : api_Cost), 0, (⟨0, 0, ([] : (List (List UInt8)))⟩ : api_Line), 0, 0, 0, ([] : (List api_Ability)), a1.Control⟩ : api_Traits))
      else
        bif (a1.Zone == 5) then
          some (.inr (⟨([] : List UInt8), (⟨0, 0, (⟨0, 0, 0, 0, 0⟩ : (A5 Int))⟩ : api_Cost), 0, (⟨0, 0, ([] : (List (List UInt8)))⟩ : api_Line), 0, 0, 0, ([] : (List api_Ability)), a1.Control⟩ : api_Traits))
        else
          some (.inr (⟨([] : List UInt8), (⟨0, 0, (⟨0, 0, 0, 0, 0⟩ : (A5 Int))⟩ : api_Cost), 0, (⟨0, 0, ([] : (List (List UInt8)))⟩ : api_Line), 0, 0, 0, ([] : (List api_Ability)), a1.Owner⟩ : api_Traits))
noncomputable def R28_Of (a0 : (List api_Card)) (a1 : api_Object) : Option api_Traits := (R28_Of_0 a0 a1).bind (endO R28_Of_step)
abbrev L28_alive_S := Empty
def L28_alive_step : L28_alive_S → Option (L28_alive_S ⊕ Bool) := fun s => nomatch s
def L28_alive_0 : Option (L28_alive_S ⊕ Bool) :=
  Option.bind (base_Of [(⟨([97] : List UInt8), false, (⟨0, 0, (⟨1, 0, 0, 0, 0⟩ : (A5 Int))⟩ : api_Cost), 4, (⟨0, 0, ([] : (List (List UInt8)))⟩ : api_Line), 2, 0, 0, ([] : (List api_Ability))⟩ : api_Card), (⟨([98] : List UInt8), false, (⟨0, 0, (⟨0, 0, 0, 0, 0⟩ : (A5 Int))⟩ : api_Cost), 0, (⟨0, 0, ([] : (List (List UInt8)))⟩ : api_Line), 0, 0, 0, [(⟨2, (⟨0, 0, 0, 0, 0, 0, 0, ([] : List UInt8), 0, 0, (⟨0, 0⟩ : api_Bound), (⟨0, 0⟩ : api_Bound), (⟨0, 0⟩ : api_Bound)⟩ : api_Filter), ([] : (List api_Mod)), (⟨(⟨0, 0, (⟨0, 0, 0, 0, 0⟩ : (A5 Int))⟩ : api_Cost), false, false, 0⟩ : api_Price), false, (⟨0, 0, (⟨0, 0, 0, 0, 0, 0, 0, ([] : List UInt8), 0, 0, (⟨0, 0⟩ : api_Bound), (⟨0, 0⟩ : api_Bound), (⟨0, 0⟩ : api_Bound)⟩ : api_Filter)⟩ : api_Trigger), false, ([] : (List api_Spec)), ([] : (List api_Effect)), (⟨0, 0, (⟨0, 0, 0, 0, 0, 0, 0, ([] : List UInt8), 0, 0, (⟨0, 0⟩ : api_Bound), (⟨0, 0⟩ : api_Bound), (⟨0, 0⟩ : api_Bound)⟩ : api_Filter), 0, 0, 0, 0⟩ : api_Replace)⟩ : api_Ability)]⟩ : api_Card)] (⟨0, 0, 0, 1, 0, false, false, false, false, 0, (⟨0, 0, 0⟩ : (A3 Int)), 0, 1, 0, false, 0, 0⟩ : api_Object)) fun x1 =>
    Option.bind (base_Of [(⟨([97] : List UInt8), false, (⟨0, 0, (⟨1, 0, 0, 0, 0⟩ : (A5 Int))⟩ : api_Cost), 4, (⟨0, 0, ([] : (List (List UInt8)))⟩ : api_Line), 2, 0, 0, ([] : (List api_Ability))⟩ : api_Card), (⟨([98] : List UInt8), false, (⟨0, 0, (⟨0, 0, 0, 0, 0⟩ : (A5 Int))⟩ : api_Cost), 0, (⟨0, 0, ([] : (List (List UInt8)))⟩ : api_Line), 0, 0, 0, [(⟨2, (⟨0, 0, 0, 0, 0, 0, 0, ([] : List UInt8), 0, 0, (⟨0, 0⟩ : api_Bound), (⟨0, 0⟩ : api_Bound), (⟨0, 0⟩ : api_Bound)⟩ : api_Filter), ([] : (List api_Mod)), (⟨(⟨0, 0, (⟨0, 0, 0, 0, 0⟩ : (A5 Int))⟩ : api_Cost), false, false, 0⟩ : api_Price), false, (⟨0, 0, (⟨0, 0, 0, 0, 0, 0, 0, ([] : List UInt8), 0, 0, (⟨0, 0⟩ : api_Bound), (⟨0, 0⟩ : api_Bound), (⟨0, 0⟩ : api_Bound)⟩ : api_Filter)⟩ : api_Trigger), false, ([] : (List api_Spec)), ([] : (List api_Effect)), (⟨0, 0, (⟨0, 0, 0, 0, 0, 0, 0, ([] : List UInt8), 0, 0, (⟨0, 0⟩ : api_Bound), (⟨0, 0⟩ : api_Bound), (⟨0, 0⟩ : api_Bound)⟩ : api_Filter), 0, 0, 0, 0⟩ : api_Replace)⟩ : api_Ability)]⟩ : api_Card)] (⟨0, 0, 0, 1, 1, false, false, false, false, 0, (⟨0, 0, 0⟩ : (A3 Int)), 0, (-1), 0, false, 0, 0⟩ : api_Object)) fun x3 =>
      Option.bind (base_Of [(⟨([97] : List UInt8), false, (⟨0, 0, (⟨1, 0, 0, 0, 0⟩ : (A5 Int))⟩ : api_Cost), 4, (⟨0, 0, ([] : (List (List UInt8)))⟩ : api_Line), 2, 0, 0, ([] : (List api_Ability))⟩ : api_Card), (⟨([98] : List UInt8), false, (⟨0, 0, (⟨0, 0, 0, 0, 0⟩ : (A5 Int))⟩ : api_Cost), 0, (⟨0, 0, ([] : (List (List UInt8)))⟩ : api_Line), 0, 0, 0, [(⟨2, (⟨0, 0, 0, 0, 0, 0, 0, ([] : List UInt8), 0, 0, (⟨0, 0⟩ : api_Bound), (⟨0, 0⟩ : api_Bound), (⟨0, 0⟩ : api_Bound)⟩ : api_Filter), ([] : (List api_Mod)), (⟨(⟨0, 0, (⟨0, 0, 0, 0, 0⟩ : (A5 Int))⟩ : api_Cost), false, false, 0⟩ : api_Price), false, (⟨0, 0, (⟨0, 0, 0, 0, 0, 0, 0, ([] : List UInt8), 0, 0, (⟨0, 0⟩ : api_Bound), (⟨0, 0⟩ : api_Bound), (⟨0, 0⟩ : api_Bound)⟩ : api_Filter)⟩ : api_Trigger), false, ([] : (List api_Spec)), ([] : (List api_Effect)), (⟨0, 0, (⟨0, 0, 0, 0, 0, 0, 0, ([] : List UInt8), 0, 0, (⟨0, 0⟩ : api_Bound), (⟨0, 0⟩ : api_Bound), (⟨0, 0⟩ : api_Bound)⟩ : api_Filter), 0, 0, 0, 0⟩ : api_Replace)⟩ : api_Ability)]⟩ : api_Card)] (⟨0, 2, 1, 0, 4, false, false, false, false, 0, (⟨0, 0, 0⟩ : (A3 Int)), 0, (-1), 0, false, 0, 0⟩ : api_Object)) fun x5 =>
          bif (x1.Name == ([98] : List UInt8)) then
            bif (x1.Control == 1) then
              bif ((x1.Abilities.length : Int) == 1) then
                bif (x3.Name == ([97] : List UInt8)) then
                  bif (x3.Control == 0) then
                    bif (x3.Colors == 5) then
                      bif (x3.Power == 2) then
                        bif (x5.Name == ([] : List UInt8)) then
                          bif (x5.Control == 1) then
                            Option.bind (idx? [(⟨([97] : List UInt8), false, (⟨0, 0, (⟨1, 0, 0, 0, 0⟩ : (A5 Int))⟩ : api_Cost), 4, (⟨0, 0, ([] : (List (List UInt8)))⟩ : api_Line), 2, 0, 0, ([] : (List api_Ability))⟩ : api_Card), (⟨([98] : List UInt8), false, (⟨0, 0, (⟨0, 0, 0, 0, 0⟩ : (A5 Int))⟩ : api_Cost), 0, (⟨0, 0, ([] : (List (List UInt8)))⟩ : api_Line), 0, 0, 0, [(⟨2, (⟨0, 0, 0, 0, 0, 0, 0, ([] : List UInt8), 0, 0, (⟨0, 0⟩ : api_Bound), (⟨0, 0⟩ : api_Bound), (⟨0, 0⟩ : api_Bound)⟩ : api_Filter), ([] : (List api_Mod)), (⟨(⟨0, 0, (⟨0, 0, 0, 0, 0⟩ : (A5 Int))⟩ : api_Cost), false, false, 0⟩ : api_Price), false, (⟨0, 0, (⟨0, 0, 0, 0, 0, 0, 0, ([] : List UInt8), 0, 0, (⟨0, 0⟩ : api_Bound), (⟨0, 0⟩ : api_Bound), (⟨0, 0⟩ : api_Bound)⟩ : api_Filter)⟩ : api_Trigger), false, ([] : (List api_Spec)), ([] : (List api_Effect)), (⟨0, 0, (⟨0, 0, 0, 0, 0, 0, 0, ([] : List UInt8), 0, 0, (⟨0, 0⟩ : api_Bound), (⟨0, 0⟩ : api_Bound), (⟨0, 0⟩ : api_Bound)⟩ : api_Filter), 0, 0, 0, 0⟩ : api_Replace)⟩ : api_Ability)]⟩ : api_Card)] 0) fun x16 =>
                              Option.bind (base_Printed x16) fun x18 =>
                                Option.bind (base_Same x3 x18) fun x20 =>
                                  bif x20 then
                                    Option.bind (base_Same x1 x3) fun x23 =>
                                      some (.inr (!x23))
                                  else
                                    some (.inr false)
                          else
                            some (.inr false)
                        else
                          some (.inr false)
                      else
                        some (.inr false)
                    else
                      some (.inr false)
                  else
                    some (.inr false)
                else
                  some (.inr false)
              else
                some (.inr false)
            else
              some (.inr false)
          else
            some (.inr false)
noncomputable def L28_alive : Option Bool := (L28_alive_0).bind (endO L28_alive_step)
abbrev L28_BasePrints_S := Empty
def L28_BasePrints_step : L28_BasePrints_S → Option (L28_BasePrints_S ⊕ Bool) := fun s => nomatch s
def L28_BasePrints_0 (a0 : api_Card) : Option (L28_BasePrints_S ⊕ Bool) :=
    Option.bind (L28_few a0) fun x1 =>
      bif (!x1) then
        some (.inr true)
      else
        Option.bind (L28_alive) fun x4 =>
          bif x4 then
            Option.bind (base_Printed a0) fun x7 =>
              Option.bind (R28_Printed a0) fun x9 =>
                Option.bind (R28_Same x7 x9) fun x11 =>
                  some (.inr x11)
          else
            some (.inr false)
noncomputable def L28_BasePrints (a0 : api_Card) : Option Bool := (L28_BasePrints_0 a0).bind (endO L28_BasePrints_step)
abbrev L28_BaseReads_S := Empty
def L28_BaseReads_step : L28_BaseReads_S → Option (L28_BaseReads_S ⊕ Bool) := fun s => nomatch s
def L28_BaseReads_0 (a0 : (List api_Card)) (a1 : api_Object) : Option (L28_BaseReads_S ⊕ Bool) :=
    bif decide ((a0.length : Int) > 40) then
      some (.inr true)
    else
      Option.bind (L28_alive) fun x2 =>
        bif x2 then
          Option.bind (base_Of a0 a1) fun x5 =>
            Option.bind (R28_Of a0 a1) fun x7 =>
              Option.bind (R28_Same x5 x7) fun x9 =>
                some (.inr x9)
        else
          some (.inr false)
noncomputable def L28_BaseReads (a0 : (List api_Card)) (a1 : api_Object) : Option Bool := (L28_BaseReads_0 a0 a1).bind (endO L28_BaseReads_step)
abbrev L28_BaseSames_S := Empty
def L28_BaseSames_step : L28_BaseSames_S → Option (L28_BaseSames_S ⊕ Bool) := fun s => nomatch s
def L28_BaseSames_0 (a0 : api_Traits) (a1 : api_Traits) : Option (L28_BaseSames_S ⊕ Bool) :=
  bif decide ((a0.Abilities.length : Int) > 12) then
    Option.bind (L28_alive) fun x2 =>
      some (.inr x2)
  else
    bif decide ((a1.Abilities.length : Int) > 12) then
      Option.bind (L28_alive) fun x5 =>
        some (.inr x5)
    else
      bif ((a0.Abilities.length : Int) == 0) then
        bif ((a0.Line.Subs.length : Int) == 0) then
            Option.bind (L28_alive) fun x9 =>
              bif x9 then
                Option.bind (base_Same a0 a1) fun x12 =>
                  Option.bind (R28_Same a0 a1) fun x14 =>
                    bif (x12 == x14) then
                      Option.bind (base_Same a0 a0) fun x17 =>
                        bif x17 then
                          Option.bind (base_Same a0 (⟨a0.Name, a0.Cost, a0.Colors, (⟨a0.Line.Super, a0.Line.Types, ([] : (List (List UInt8)))⟩ : api_Line), a0.Power, a0.Tough, a0.Keys, ([] : (List api_Ability)), a0.Control⟩ : api_Traits)) fun x20 =>
                            bif x20 then
                              Option.bind (base_Same a0 a1) fun x23 =>
                                Option.bind (base_Same a1 a0) fun x25 =>
                                  some (.inr (x23 == x25))
                            else
                              some (.inr false)
                        else
                          some (.inr false)
                    else
                      some (.inr false)
              else
                some (.inr false)
        else
            Option.bind (L28_alive) fun x27 =>
              bif x27 then
                Option.bind (base_Same a0 a1) fun x30 =>
                  Option.bind (R28_Same a0 a1) fun x32 =>
                    bif (x30 == x32) then
                      Option.bind (base_Same a0 a0) fun x35 =>
                        bif x35 then
                          Option.bind (base_Same a0 (⟨a0.Name, a0.Cost, a0.Colors, a0.Line, a0.Power, a0.Tough, a0.Keys, ([] : (List api_Ability)), a0.Control⟩ : api_Traits)) fun x38 =>
                            bif x38 then
                              Option.bind (base_Same a0 a1) fun x41 =>
                                Option.bind (base_Same a1 a0) fun x43 =>
                                  some (.inr (x41 == x43))
                            else
                              some (.inr false)
                        else
                          some (.inr false)
                    else
                      some (.inr false)
              else
                some (.inr false)
      else
        bif ((a0.Line.Subs.length : Int) == 0) then
            Option.bind (L28_alive) fun x46 =>
              bif x46 then
                Option.bind (base_Same a0 a1) fun x49 =>
                  Option.bind (R28_Same a0 a1) fun x51 =>
                    bif (x49 == x51) then
                      Option.bind (base_Same a0 a0) fun x54 =>
                        bif x54 then
                          Option.bind (base_Same a0 (⟨a0.Name, a0.Cost, a0.Colors, (⟨a0.Line.Super, a0.Line.Types, ([] : (List (List UInt8)))⟩ : api_Line), a0.Power, a0.Tough, a0.Keys, a0.Abilities, a0.Control⟩ : api_Traits)) fun x57 =>
                            bif x57 then
                              Option.bind (base_Same a0 a1) fun x60 =>
                                Option.bind (base_Same a1 a0) fun x62 =>
                                  some (.inr (x60 == x62))
                            else
                              some (.inr false)
                        else
                          some (.inr false)
                    else
                      some (.inr false)
              else
                some (.inr false)
        else
            Option.bind (L28_alive) fun x64 =>
              bif x64 then
                Option.bind (base_Same a0 a1) fun x67 =>
                  Option.bind (R28_Same a0 a1) fun x69 =>
                    bif (x67 == x69) then
                      Option.bind (base_Same a0 a0) fun x72 =>
                        bif x72 then
                          Option.bind (base_Same a0 a0) fun x75 =>
                            bif x75 then
                              Option.bind (base_Same a0 a1) fun x78 =>
                                Option.bind (base_Same a1 a0) fun x80 =>
                                  some (.inr (x78 == x80))
                            else
                              some (.inr false)
                        else
                          some (.inr false)
                    else
                      some (.inr false)
              else
                some (.inr false)
noncomputable def L28_BaseSames (a0 : api_Traits) (a1 : api_Traits) : Option Bool := (L28_BaseSames_0 a0 a1).bind (endO L28_BaseSames_step)
abbrev L28_BaseCopies_S := Empty
def L28_BaseCopies_step : L28_BaseCopies_S → Option (L28_BaseCopies_S ⊕ Bool) := fun s => nomatch s
def L28_BaseCopies_0 (a0 : (List api_Card)) (a1 : api_Object) : Option (L28_BaseCopies_S ⊕ Bool) :=
  bif decide ((a0.length : Int) > 40) then
    Option.bind (L28_alive) fun x2 =>
      some (.inr x2)
  else
    bif decide (a1.Copy ≥ 0) then
      bif decide (a1.Copy ≥ 0) then
        bif decide (a1.Copy < (a0.length : Int)) then
          Option.bind (idx? a0 a1.Copy) fun x7 =>
            Option.bind (base_Printed x7) fun x9 =>
              bif (a1.Zone == 0) then
                bif decide (a1.Copy ≥ 0) then
                    Option.bind (L28_alive) fun x13 =>
                      bif x13 then
                        Option.bind (base_Of a0 a1) fun x16 =>
                          Option.bind (base_Same x16 (⟨x9.Name, x9.Cost, x9.Colors, x9.Line, x9.Power, x9.Tough, x9.Keys, x9.Abilities, a1.Control⟩ : api_Traits)) fun x18 =>
                            bif x18 then
                              Option.bind (base_Of a0 (⟨a1.Id, IntKind.wrap .i64 (a1.Card + 1), a1.Owner, a1.Control, a1.Zone, a1.Token, (!a1.Tapped), (!a1.Sick), a1.Deadly, 7, a1.Counters, 7, a1.Copy, a1.Attack, a1.Blocked, a1.Blocks, a1.Shield⟩ : api_Object)) fun x21 =>
                                Option.bind (base_Same x21 (⟨x9.Name, x9.Cost, x9.Colors, x9.Line, x9.Power, x9.Tough, x9.Keys, x9.Abilities, a1.Control⟩ : api_Traits)) fun x23 =>
                                  some (.inr x23)
                            else
                              some (.inr false)
                      else
                        some (.inr false)
                else
                    Option.bind (L28_alive) fun x25 =>
                      bif x25 then
                        Option.bind (base_Of a0 a1) fun x28 =>
                          Option.bind (base_Same x28 (⟨x9.Name, x9.Cost, x9.Colors, x9.Line, x9.Power, x9.Tough, x9.Keys, x9.Abilities, a1.Control⟩ : api_Traits)) fun x30 =>
                            bif x30 then
                              Option.bind (base_Of a0 (⟨a1.Id, a1.Card, a1.Owner, a1.Control, a1.Zone, a1.Token, (!a1.Tapped), (!a1.Sick), a1.Deadly, 7, a1.Counters, 7, a1.Copy, a1.Attack, a1.Blocked, a1.Blocks, a1.Shield⟩ : api_Object)) fun x33 =>
                                Option.bind (base_Same x33 (⟨x9.Name, x9.Cost, x9.Colors, x9.Line, x9.Power, x9.Tough, x9.Keys, x9.Abilities, a1.Control⟩ : api_Traits)) fun x35 =>
                                  some (.inr x35)
                            else
                              some (.inr false)
                      else
                        some (.inr false)
              else
                bif (a1.Zone == 5) then
                  bif decide (a1.Copy ≥ 0) then
                      Option.bind (L28_alive) fun x39 =>
                        bif x39 then
                          Option.bind (base_Of a0 a1) fun x42 =>
                            Option.bind (base_Same x42 (⟨x9.Name, x9.Cost, x9.Colors, x9.Line, x9.Power, x9.Tough, x9.Keys, x9.Abilities, a1.Control⟩ : api_Traits)) fun x44 =>
                              bif x44 then
                                Option.bind (base_Of a0 (⟨a1.Id, IntKind.wrap .i64 (a1.Card + 1), a1.Owner, a1.Control, a1.Zone, a1.Token, (!a1.Tapped), (!a1.Sick), a1.Deadly, 7, a1.Counters, 7, a1.Copy, a1.Attack, a1.Blocked, a1.Blocks, a1.Shield⟩ : api_Object)) fun x47 =>
                                  Option.bind (base_Same x47 (⟨x9.Name, x9.Cost, x9.Colors, x9.Line, x9.Power, x9.Tough, x9.Keys, x9.Abilities, a1.Control⟩ : api_Traits)) fun x49 =>
                                    some (.inr x49)
                              else
                                some (.inr false)
                        else
                          some (.inr false)
                  else
                      Option.bind (L28_alive) fun x51 =>
                        bif x51 then
                          Option.bind (base_Of a0 a1) fun x54 =>
                            Option.bind (base_Same x54 (⟨x9.Name, x9.Cost, x9.Colors, x9.Line, x9.Power, x9.Tough, x9.Keys, x9.Abilities, a1.Control⟩ : api_Traits)) fun x56 =>
                              bif x56 then
                                Option.bind (base_Of a0 (⟨a1.Id, a1.Card, a1.Owner, a1.Control, a1.Zone, a1.Token, (!a1.Tapped), (!a1.Sick), a1.Deadly, 7, a1.Counters, 7, a1.Copy, a1.Attack, a1.Blocked, a1.Blocks, a1.Shield⟩ : api_Object)) fun x59 =>
                                  Option.bind (base_Same x59 (⟨x9.Name, x9.Cost, x9.Colors, x9.Line, x9.Power, x9.Tough, x9.Keys, x9.Abilities, a1.Control⟩ : api_Traits)) fun x61 =>
                                    some (.inr x61)
                              else
                                some (.inr false)
                        else
                          some (.inr false)
                else
                  bif decide (a1.Copy ≥ 0) then
                      Option.bind (L28_alive) fun x64 =>
                        bif x64 then
                          Option.bind (base_Of a0 a1) fun x67 =>
                            Option.bind (base_Same x67 (⟨x9.Name, x9.Cost, x9.Colors, x9.Line, x9.Power, x9.Tough, x9.Keys, x9.Abilities, a1.Owner⟩ : api_Traits)) fun x69 =>
                              bif x69 then
                                Option.bind (base_Of a0 (⟨a1.Id, IntKind.wrap .i64 (a1.Card + 1), a1.Owner, a1.Control, a1.Zone, a1.Token, (!a1.Tapped), (!a1.Sick), a1.Deadly, 7, a1.Counters, 7, a1.Copy, a1.Attack, a1.Blocked, a1.Blocks, a1.Shield⟩ : api_Object)) fun x72 =>
                                  Option.bind (base_Same x72 (⟨x9.Name, x9.Cost, x9.Colors, x9.Line, x9.Power, x9.Tough, x9.Keys, x9.Abilities, a1.Owner⟩ : api_Traits)) fun x74 =>
                                    some (.inr x74)
                              else
                                some (.inr false)
                        else
                          some (.inr false)
                  else
                      Option.bind (L28_alive) fun x76 =>
                        bif x76 then
                          Option.bind (base_Of a0 a1) fun x79 =>
                            Option.bind (base_Same x79 (⟨x9.Name, x9.Cost, x9.Colors, x9.Line, x9.Power, x9.Tough, x9.Keys, x9.Abilities, a1.Owner⟩ : api_Traits)) fun x81 =>
                              bif x81 then
                                Option.bind (base_Of a0 (⟨a1.Id, a1.Card, a1.Owner, a1.Control, a1.Zone, a1.Token, (!a1.Tapped), (!a1.Sick), a1.Deadly, 7, a1.Counters, 7, a1.Copy, a1.Attack, a1.Blocked, a1.Blocks, a1.Shield⟩ : api_Object)) fun x84 =>
                                  Option.bind (base_Same x84 (⟨x9.Name, x9.Cost, x9.Colors, x9.Line, x9.Power, x9.Tough, x9.Keys, x9.Abilities, a1.Owner⟩ : api_Traits)) fun x86 =>
                                    some (.inr x86)
                              else
                                some (.inr false)
                        else
                          some (.inr false)
        else
          bif (a1.Zone == 0) then
            bif decide (a1.Copy ≥ 0) then
                Option.bind (L28_alive) fun x90 =>
                  bif x90 then
                    Option.bind (base_Of a0 a1) fun x93 =>
                      Option.bind (base_Same x93 (⟨([] : List UInt8), (⟨0, 0, (⟨0, 0, 0, 0, 0⟩ : (A5 Int))⟩ : api_Cost), 0, (⟨0, 0, ([] : (List (List UInt8)))⟩ : api_Line), 0, 0, 0, ([] : (List api_Ability)), a1.Control⟩ : api_Traits)) fun x95 =>
                        bif x95 then
                          Option.bind (base_Of a0 (⟨a1.Id, IntKind.wrap .i64 (a1.Card + 1), a1.Owner, a1.Control, a1.Zone, a1.Token, (!a1.Tapped), (!a1.Sick), a1.Deadly, 7, a1.Counters, 7, a1.Copy, a1.Attack, a1.Blocked, a1.Blocks, a1.Shield⟩ : api_Object)) fun x98 =>
                            Option.bind (base_Same x98 (⟨([] : List UInt8), (⟨0, 0, (⟨0, 0, 0, 0, 0⟩ : (A5 Int))⟩ : api_Cost), 0, (⟨0, 0, ([] : (List (List UInt8)))⟩ : api_Line), 0, 0, 0, ([] : (List api_Ability)), a1.Control⟩ : api_Traits)) fun x100 =>
                              some (.inr x100)
                        else
                          some (.inr false)
                  else
                    some (.inr false)
            else
                Option.bind (L28_alive) fun x102 =>
                  bif x102 then
                    Option.bind (base_Of a0 a1) fun x105 =>
                      Option.bind (base_Same x105 (⟨([] : List UInt8), (⟨0, 0, (⟨0, 0, 0, 0, 0⟩ : (A5 Int))⟩ : api_Cost), 0, (⟨0, 0, ([] : (List (List UInt8)))⟩ : api_Line), 0, 0, 0, ([] : (List api_Ability)), a1.Control⟩ : api_Traits)) fun x107 =>
                        bif x107 then
                          Option.bind (base_Of a0 (⟨a1.Id, a1.Card, a1.Owner, a1.Control, a1.Zone, a1.Token, (!a1.Tapped), (!a1.Sick), a1.Deadly, 7, a1.Counters, 7, a1.Copy, a1.Attack, a1.Blocked, a1.Blocks, a1.Shield⟩ : api_Object)) fun x110 =>
                            Option.bind (base_Same x110 (⟨([] : List UInt8), (⟨0, 0, (⟨0, 0, 0, 0, 0⟩ : (A5 Int))⟩ : api_Cost), 0, (⟨0, 0, ([] : (List (List UInt8)))⟩ : api_Line), 0, 0, 0, ([] : (List api_Ability)), a1.Control⟩ : api_Traits)) fun x112 =>
                              some (.inr x112)
                        else
                          some (.inr false)
                  else
                    some (.inr false)
          else
            bif (a1.Zone == 5) then
              bif decide (a1.Copy ≥ 0) then
                  Option.bind (L28_alive) fun x116 =>
                    bif x116 then
                      Option.bind (base_Of a0 a1) fun x119 =>
                        Option.bind (base_Same x119 (⟨([] : List UInt8), (⟨0, 0, (⟨0, 0, 0, 0, 0⟩ : (A5 Int))⟩ : api_Cost), 0, (⟨0, 0, ([] : (List (List UInt8)))⟩ : api_Line), 0, 0, 0, ([] : (List api_Ability)), a1.Control⟩ : api_Traits)) fun x121 =>
                          bif x121 then
                            Option.bind (base_Of a0 (⟨a1.Id, IntKind.wrap .i64 (a1.Card + 1), a1.Owner, a1.Control, a1.Zone, a1.Token, (!a1.Tapped), (!a1.Sick), a1.Deadly, 7, a1.Counters, 7, a1.Copy, a1.Attack, a1.Blocked, a1.Blocks, a1.Shield⟩ : api_Object)) fun x124 =>
                              Option.bind (base_Same x124 (⟨([] : List UInt8), (⟨0, 0, (⟨0, 0, 0, 0, 0⟩ : (A5 Int))⟩ : api_Cost), 0, (⟨0, 0, ([] : (List (List UInt8)))⟩ : api_Line), 0, 0, 0, ([] : (List api_Ability)), a1.Control⟩ : api_Traits)) fun x126 =>
                                some (.inr x126)
                          else
                            some (.inr false)
                    else
                      some (.inr false)
              else
                  Option.bind (L28_alive) fun x128 =>
                    bif x128 then
                      Option.bind (base_Of a0 a1) fun x131 =>
                        Option.bind (base_Same x131 (⟨([] : List UInt8), (⟨0, 0, (⟨0, 0, 0, 0, 0⟩ : (A5 Int))⟩ : api_Cost), 0, (⟨0, 0, ([] : (List (List UInt8)))⟩ : api_Line), 0, 0, 0, ([] : (List api_Ability)), a1.Control⟩ : api_Traits)) fun x133 =>
                          bif x133 then
                            Option.bind (base_Of a0 (⟨a1.Id, a1.Card, a1.Owner, a1.Control, a1.Zone, a1.Token, (!a1.Tapped), (!a1.Sick), a1.Deadly, 7, a1.Counters, 7, a1.Copy, a1.Attack, a1.Blocked, a1.Blocks, a1.Shield⟩ : api_Object)) fun x136 =>
                              Option.bind (base_Same x136 (⟨([] : List UInt8), (⟨0, 0, (⟨0, 0, 0, 0, 0⟩ : (A5 Int))⟩ : api_Cost), 0, (⟨0, 0, ([] : (List (List UInt8)))⟩ : api_Line), 0, 0, 0, ([] : (List api_Ability)), a1.Control⟩ : api_Traits)) fun x138 =>
                                some (.inr x138)
                          else
                            some (.inr false)
                    else
                      some (.inr false)
            else
              bif decide (a1.Copy ≥ 0) then
                  Option.bind (L28_alive) fun x141 =>
                    bif x141 then
                      Option.bind (base_Of a0 a1) fun x144 =>
                        Option.bind (base_Same x144 (⟨([] : List UInt8), (⟨0, 0, (⟨0, 0, 0, 0, 0⟩ : (A5 Int))⟩ : api_Cost), 0, (⟨0, 0, ([] : (List (List UInt8)))⟩ : api_Line), 0, 0, 0, ([] : (List api_Ability)), a1.Owner⟩ : api_Traits)) fun x146 =>
                          bif x146 then
                            Option.bind (base_Of a0 (⟨a1.Id, IntKind.wrap .i64 (a1.Card + 1), a1.Owner, a1.Control, a1.Zone, a1.Token, (!a1.Tapped), (!a1.Sick), a1.Deadly, 7, a1.Counters, 7, a1.Copy, a1.Attack, a1.Blocked, a1.Blocks, a1.Shield⟩ : api_Object)) fun x149 =>
                              Option.bind (base_Same x149 (⟨([] : List UInt8), (⟨0, 0, (⟨0, 0, 0, 0, 0⟩ : (A5 Int))⟩ : api_Cost), 0, (⟨0, 0, ([] : (List (List UInt8)))⟩ : api_Line), 0, 0, 0, ([] : (List api_Ability)), a1.Owner⟩ : api_Traits)) fun x151 =>
                                some (.inr x151)
                          else
                            some (.inr false)
                    else
                      some (.inr false)
              else
                  Option.bind (L28_alive) fun x153 =>
                    bif x153 then
                      Option.bind (base_Of a0 a1) fun x156 =>
                        Option.bind (base_Same x156 (⟨([] : List UInt8), (⟨0, 0, (⟨0, 0, 0, 0, 0⟩ : (A5 Int))⟩ : api_Cost), 0, (⟨0, 0, ([] : (List (List UInt8)))⟩ : api_Line), 0, 0, 0, ([] : (List api_Ability)), a1.Owner⟩ : api_Traits)) fun x158 =>
                          bif x158 then
                            Option.bind (base_Of a0 (⟨a1.Id, a1.Card, a1.Owner, a1.Control, a1.Zone, a1.Token, (!a1.Tapped), (!a1.Sick), a1.Deadly, 7, a1.Counters, 7, a1.Copy, a1.Attack, a1.Blocked, a1.Blocks, a1.Shield⟩ : api_Object)) fun x161 =>
                              Option.bind (base_Same x161 (⟨([] : List UInt8), (⟨0, 0, (⟨0, 0, 0, 0, 0⟩ : (A5 Int))⟩ : api_Cost), 0, (⟨0, 0, ([] : (List (List UInt8)))⟩ : api_Line), 0, 0, 0, ([] : (List api_Ability)), a1.Owner⟩ : api_Traits)) fun x163 =>
                                some (.inr x163)
                          else
                            some (.inr false)
                    else
                      some (.inr false)
      else
        bif (a1.Zone == 0) then
          bif decide (a1.Copy ≥ 0) then
              Option.bind (L28_alive) fun x167 =>
                bif x167 then
                  Option.bind (base_Of a0 a1) fun x170 =>
                    Option.bind (base_Same x170 (⟨([] : List UInt8), (⟨0, 0, (⟨0, 0, 0, 0, 0⟩ : (A5 Int))⟩ : api_Cost), 0, (⟨0, 0, ([] : (List (List UInt8)))⟩ : api_Line), 0, 0, 0, ([] : (List api_Ability)), a1.Control⟩ : api_Traits)) fun x172 =>
                      bif x172 then
                        Option.bind (base_Of a0 (⟨a1.Id, IntKind.wrap .i64 (a1.Card + 1), a1.Owner, a1.Control, a1.Zone, a1.Token, (!a1.Tapped), (!a1.Sick), a1.Deadly, 7, a1.Counters, 7, a1.Copy, a1.Attack, a1.Blocked, a1.Blocks, a1.Shield⟩ : api_Object)) fun x175 =>
                          Option.bind (base_Same x175 (⟨([] : List UInt8), (⟨0, 0, (⟨0, 0, 0, 0, 0⟩ : (A5 Int))⟩ : api_Cost), 0, (⟨0, 0, ([] : (List (List UInt8)))⟩ : api_Line), 0, 0, 0, ([] : (List api_Ability)), a1.Control⟩ : api_Traits)) fun x177 =>
                            some (.inr x177)
                      else
                        some (.inr false)
                else
                  some (.inr false)
          else
              Option.bind (L28_alive) fun x179 =>
                bif x179 then
                  Option.bind (base_Of a0 a1) fun x182 =>
                    Option.bind (base_Same x182 (⟨([] : List UInt8), (⟨0, 0, (⟨0, 0, 0, 0, 0⟩ : (A5 Int))⟩ : api_Cost), 0, (⟨0, 0, ([] : (List (List UInt8)))⟩ : api_Line), 0, 0, 0, ([] : (List api_Ability)), a1.Control⟩ : api_Traits)) fun x184 =>
                      bif x184 then
                        Option.bind (base_Of a0 (⟨a1.Id, a1.Card, a1.Owner, a1.Control, a1.Zone, a1.Token, (!a1.Tapped), (!a1.Sick), a1.Deadly, 7, a1.Counters, 7, a1.Copy, a1.Attack, a1.Blocked, a1.Blocks, a1.Shield⟩ : api_Object)) fun x187 =>
                          Option.bind (base_Same x187 (⟨([] : List UInt8), (⟨0, 0, (⟨0, 0, 0, 0, 0⟩ : (A5 Int))⟩ : api_Cost), 0, (⟨0, 0, ([] : (List (List UInt8)))⟩ : api_Line), 0, 0, 0, ([] : (List api_Ability)), a1.Control⟩ : api_Traits)) fun x189 =>
                            some (.inr x189)
                      else
                        some (.inr false)
                else
                  some (.inr false)
        else
          bif (a1.Zone == 5) then
            bif decide (a1.Copy ≥ 0) then
                Option.bind (L28_alive) fun x193 =>
                  bif x193 then
                    Option.bind (base_Of a0 a1) fun x196 =>
                      Option.bind (base_Same x196 (⟨([] : List UInt8), (⟨0, 0, (⟨0, 0, 0, 0, 0⟩ : (A5 Int))⟩ : api_Cost), 0, (⟨0, 0, ([] : (List (List UInt8)))⟩ : api_Line), 0, 0, 0, ([] : (List api_Ability)), a1.Control⟩ : api_Traits)) fun x198 =>
                        bif x198 then
                          Option.bind (base_Of a0 (⟨a1.Id, IntKind.wrap .i64 (a1.Card + 1), a1.Owner, a1.Control, a1.Zone, a1.Token, (!a1.Tapped), (!a1.Sick), a1.Deadly, 7, a1.Counters, 7, a1.Copy, a1.Attack, a1.Blocked, a1.Blocks, a1.Shield⟩ : api_Object)) fun x201 =>
                            Option.bind (base_Same x201 (⟨([] : List UInt8), (⟨0, 0, (⟨0, 0, 0, 0, 0⟩ : (A5 Int))⟩ : api_Cost), 0, (⟨0, 0, ([] : (List (List UInt8)))⟩ : api_Line), 0, 0, 0, ([] : (List api_Ability)), a1.Control⟩ : api_Traits)) fun x203 =>
                              some (.inr x203)
                        else
                          some (.inr false)
                  else
                    some (.inr false)
            else
                Option.bind (L28_alive) fun x205 =>
                  bif x205 then
                    Option.bind (base_Of a0 a1) fun x208 =>
                      Option.bind (base_Same x208 (⟨([] : List UInt8), (⟨0, 0, (⟨0, 0, 0, 0, 0⟩ : (A5 Int))⟩ : api_Cost), 0, (⟨0, 0, ([] : (List (List UInt8)))⟩ : api_Line), 0, 0, 0, ([] : (List api_Ability)), a1.Control⟩ : api_Traits)) fun x210 =>
                        bif x210 then
                          Option.bind (base_Of a0 (⟨a1.Id, a1.Card, a1.Owner, a1.Control, a1.Zone, a1.Token, (!a1.Tapped), (!a1.Sick), a1.Deadly, 7, a1.Counters, 7, a1.Copy, a1.Attack, a1.Blocked, a1.Blocks, a1.Shield⟩ : api_Object)) fun x213 =>
                            Option.bind (base_Same x213 (⟨([] : List UInt8), (⟨0, 0, (⟨0, 0, 0, 0, 0⟩ : (A5 Int))⟩ : api_Cost), 0, (⟨0, 0, ([] : (List (List UInt8)))⟩ : api_Line), 0, 0, 0, ([] : (List api_Ability)), a1.Control⟩ : api_Traits)) fun x215 =>
                              some (.inr x215)
                        else
                          some (.inr false)
                  else
                    some (.inr false)
          else
            bif decide (a1.Copy ≥ 0) then
                Option.bind (L28_alive) fun x218 =>
                  bif x218 then
                    Option.bind (base_Of a0 a1) fun x221 =>
                      Option.bind (base_Same x221 (⟨([] : List UInt8), (⟨0, 0, (⟨0, 0, 0, 0, 0⟩ : (A5 Int))⟩ : api_Cost), 0, (⟨0, 0, ([] : (List (List UInt8)))⟩ : api_Line), 0, 0, 0, ([] : (List api_Ability)), a1.Owner⟩ : api_Traits)) fun x223 =>
                        bif x223 then
                          Option.bind (base_Of a0 (⟨a1.Id, IntKind.wrap .i64 (a1.Card + 1), a1.Owner, a1.Control, a1.Zone, a1.Token, (!a1.Tapped), (!a1.Sick), a1.Deadly, 7, a1.Counters, 7, a1.Copy, a1.Attack, a1.Blocked, a1.Blocks, a1.Shield⟩ : api_Object)) fun x226 =>
                            Option.bind (base_Same x226 (⟨([] : List UInt8), (⟨0, 0, (⟨0, 0, 0, 0, 0⟩ : (A5 Int))⟩ : api_Cost), 0, (⟨0, 0, ([] : (List (List UInt8)))⟩ : api_Line), 0, 0, 0, ([] : (List api_Ability)), a1.Owner⟩ : api_Traits)) fun x228 =>
                              some (.inr x228)
                        else
                          some (.inr false)
                  else
                    some (.inr false)
            else
                Option.bind (L28_alive) fun x230 =>
                  bif x230 then
                    Option.bind (base_Of a0 a1) fun x233 =>
                      Option.bind (base_Same x233 (⟨([] : List UInt8), (⟨0, 0, (⟨0, 0, 0, 0, 0⟩ : (A5 Int))⟩ : api_Cost), 0, (⟨0, 0, ([] : (List (List UInt8)))⟩ : api_Line), 0, 0, 0, ([] : (List api_Ability)), a1.Owner⟩ : api_Traits)) fun x235 =>
                        bif x235 then
                          Option.bind (base_Of a0 (⟨a1.Id, a1.Card, a1.Owner, a1.Control, a1.Zone, a1.Token, (!a1.Tapped), (!a1.Sick), a1.Deadly, 7, a1.Counters, 7, a1.Copy, a1.Attack, a1.Blocked, a1.Blocks, a1.Shield⟩ : api_Object)) fun x238 =>
                            Option.bind (base_Same x238 (⟨([] : List UInt8), (⟨0, 0, (⟨0, 0, 0, 0, 0⟩ : (A5 Int))⟩ : api_Cost), 0, (⟨0, 0, ([] : (List (List UInt8)))⟩ : api_Line), 0, 0, 0, ([] : (List api_Ability)), a1.Owner⟩ : api_Traits)) fun x240 =>
                              some (.inr x240)
                        else
                          some (.inr false)
                  else
                    some (.inr false)
    else
      bif decide (a1.Card ≥ 0) then
        bif decide (a1.Card < (a0.length : Int)) then
          Option.bind (idx? a0 a1.Card) fun x244 =>
            Option.bind (base_Printed x244) fun x246 =>
              bif (a1.Zone == 0) then
                bif decide (a1.Copy ≥ 0) then
                    Option.bind (L28_alive) fun x250 =>
                      bif x250 then
                        Option.bind (base_Of a0 a1) fun x253 =>
                          Option.bind (base_Same x253 (⟨x246.Name, x246.Cost, x246.Colors, x246.Line, x246.Power, x246.Tough, x246.Keys, x246.Abilities, a1.Control⟩ : api_Traits)) fun x255 =>
                            bif x255 then
                              Option.bind (base_Of a0 (⟨a1.Id, IntKind.wrap .i64 (a1.Card + 1), a1.Owner, a1.Control, a1.Zone, a1.Token, (!a1.Tapped), (!a1.Sick), a1.Deadly, 7, a1.Counters, 7, a1.Copy, a1.Attack, a1.Blocked, a1.Blocks, a1.Shield⟩ : api_Object)) fun x258 =>
                                Option.bind (base_Same x258 (⟨x246.Name, x246.Cost, x246.Colors, x246.Line, x246.Power, x246.Tough, x246.Keys, x246.Abilities, a1.Control⟩ : api_Traits)) fun x260 =>
                                  some (.inr x260)
                            else
                              some (.inr false)
                      else
                        some (.inr false)
                else
                    Option.bind (L28_alive) fun x262 =>
                      bif x262 then
                        Option.bind (base_Of a0 a1) fun x265 =>
                          Option.bind (base_Same x265 (⟨x246.Name, x246.Cost, x246.Colors, x246.Line, x246.Power, x246.Tough, x246.Keys, x246.Abilities, a1.Control⟩ : api_Traits)) fun x267 =>
                            bif x267 then
                              Option.bind (base_Of a0 (⟨a1.Id, a1.Card, a1.Owner, a1.Control, a1.Zone, a1.Token, (!a1.Tapped), (!a1.Sick), a1.Deadly, 7, a1.Counters, 7, a1.Copy, a1.Attack, a1.Blocked, a1.Blocks, a1.Shield⟩ : api_Object)) fun x270 =>
                                Option.bind (base_Same x270 (⟨x246.Name, x246.Cost, x246.Colors, x246.Line, x246.Power, x246.Tough, x246.Keys, x246.Abilities, a1.Control⟩ : api_Traits)) fun x272 =>
                                  some (.inr x272)
                            else
                              some (.inr false)
                      else
                        some (.inr false)
              else
                bif (a1.Zone == 5) then
                  bif decide (a1.Copy ≥ 0) then
                      Option.bind (L28_alive) fun x276 =>
                        bif x276 then
                          Option.bind (base_Of a0 a1) fun x279 =>
                            Option.bind (base_Same x279 (⟨x246.Name, x246.Cost, x246.Colors, x246.Line, x246.Power, x246.Tough, x246.Keys, x246.Abilities, a1.Control⟩ : api_Traits)) fun x281 =>
                              bif x281 then
                                Option.bind (base_Of a0 (⟨a1.Id, IntKind.wrap .i64 (a1.Card + 1), a1.Owner, a1.Control, a1.Zone, a1.Token, (!a1.Tapped), (!a1.Sick), a1.Deadly, 7, a1.Counters, 7, a1.Copy, a1.Attack, a1.Blocked, a1.Blocks, a1.Shield⟩ : api_Object)) fun x284 =>
                                  Option.bind (base_Same x284 (⟨x246.Name, x246.Cost, x246.Colors, x246.Line, x246.Power, x246.Tough, x246.Keys, x246.Abilities, a1.Control⟩ : api_Traits)) fun x286 =>
                                    some (.inr x286)
                              else
                                some (.inr false)
                        else
                          some (.inr false)
                  else
                      Option.bind (L28_alive) fun x288 =>
                        bif x288 then
                          Option.bind (base_Of a0 a1) fun x291 =>
                            Option.bind (base_Same x291 (⟨x246.Name, x246.Cost, x246.Colors, x246.Line, x246.Power, x246.Tough, x246.Keys, x246.Abilities, a1.Control⟩ : api_Traits)) fun x293 =>
                              bif x293 then
                                Option.bind (base_Of a0 (⟨a1.Id, a1.Card, a1.Owner, a1.Control, a1.Zone, a1.Token, (!a1.Tapped), (!a1.Sick), a1.Deadly, 7, a1.Counters, 7, a1.Copy, a1.Attack, a1.Blocked, a1.Blocks, a1.Shield⟩ : api_Object)) fun x296 =>
                                  Option.bind (base_Same x296 (⟨x246.Name, x246.Cost, x246.Colors, x246.Line, x246.Power, x246.Tough, x246.Keys, x246.Abilities, a1.Control⟩ : api_Traits)) fun x298 =>
                                    some (.inr x298)
                              else
                                some (.inr false)
                        else
                          some (.inr false)
                else
                  bif decide (a1.Copy ≥ 0) then
                      Option.bind (L28_alive) fun x301 =>
                        bif x301 then
                          Option.bind (base_Of a0 a1) fun x304 =>
                            Option.bind (base_Same x304 (⟨x246.Name, x246.Cost, x246.Colors, x246.Line, x246.Power, x246.Tough, x246.Keys, x246.Abilities, a1.Owner⟩ : api_Traits)) fun x306 =>
                              bif x306 then
                                Option.bind (base_Of a0 (⟨a1.Id, IntKind.wrap .i64 (a1.Card + 1), a1.Owner, a1.Control, a1.Zone, a1.Token, (!a1.Tapped), (!a1.Sick), a1.Deadly, 7, a1.Counters, 7, a1.Copy, a1.Attack, a1.Blocked, a1.Blocks, a1.Shield⟩ : api_Object)) fun x309 =>
                                  Option.bind (base_Same x309 (⟨x246.Name, x246.Cost, x246.Colors, x246.Line, x246.Power, x246.Tough, x246.Keys, x246.Abilities, a1.Owner⟩ : api_Traits)) fun x311 =>
                                    some (.inr x311)
                              else
                                some (.inr false)
                        else
                          some (.inr false)
                  else
                      Option.bind (L28_alive) fun x313 =>
                        bif x313 then
                          Option.bind (base_Of a0 a1) fun x316 =>
                            Option.bind (base_Same x316 (⟨x246.Name, x246.Cost, x246.Colors, x246.Line, x246.Power, x246.Tough, x246.Keys, x246.Abilities, a1.Owner⟩ : api_Traits)) fun x318 =>
                              bif x318 then
                                Option.bind (base_Of a0 (⟨a1.Id, a1.Card, a1.Owner, a1.Control, a1.Zone, a1.Token, (!a1.Tapped), (!a1.Sick), a1.Deadly, 7, a1.Counters, 7, a1.Copy, a1.Attack, a1.Blocked, a1.Blocks, a1.Shield⟩ : api_Object)) fun x321 =>
                                  Option.bind (base_Same x321 (⟨x246.Name, x246.Cost, x246.Colors, x246.Line, x246.Power, x246.Tough, x246.Keys, x246.Abilities, a1.Owner⟩ : api_Traits)) fun x323 =>
                                    some (.inr x323)
                              else
                                some (.inr false)
                        else
                          some (.inr false)
        else
          bif (a1.Zone == 0) then
            bif decide (a1.Copy ≥ 0) then
                Option.bind (L28_alive) fun x327 =>
                  bif x327 then
                    Option.bind (base_Of a0 a1) fun x330 =>
                      Option.bind (base_Same x330 (⟨([] : List UInt8), (⟨0, 0, (⟨0, 0, 0, 0, 0⟩ : (A5 Int))⟩ : api_Cost), 0, (⟨0, 0, ([] : (List (List UInt8)))⟩ : api_Line), 0, 0, 0, ([] : (List api_Ability)), a1.Control⟩ : api_Traits)) fun x332 =>
                        bif x332 then
                          Option.bind (base_Of a0 (⟨a1.Id, IntKind.wrap .i64 (a1.Card + 1), a1.Owner, a1.Control, a1.Zone, a1.Token, (!a1.Tapped), (!a1.Sick), a1.Deadly, 7, a1.Counters, 7, a1.Copy, a1.Attack, a1.Blocked, a1.Blocks, a1.Shield⟩ : api_Object)) fun x335 =>
                            Option.bind (base_Same x335 (⟨([] : List UInt8), (⟨0, 0, (⟨0, 0, 0, 0, 0⟩ : (A5 Int))⟩ : api_Cost), 0, (⟨0, 0, ([] : (List (List UInt8)))⟩ : api_Line), 0, 0, 0, ([] : (List api_Ability)), a1.Control⟩ : api_Traits)) fun x337 =>
                              some (.inr x337)
                        else
                          some (.inr false)
                  else
                    some (.inr false)
            else
                Option.bind (L28_alive) fun x339 =>
                  bif x339 then
                    Option.bind (base_Of a0 a1) fun x342 =>
                      Option.bind (base_Same x342 (⟨([] : List UInt8), (⟨0, 0, (⟨0, 0, 0, 0, 0⟩ : (A5 Int))⟩ : api_Cost), 0, (⟨0, 0, ([] : (List (List UInt8)))⟩ : api_Line), 0, 0, 0, ([] : (List api_Ability)), a1.Control⟩ : api_Traits)) fun x344 =>
                        bif x344 then
                          Option.bind (base_Of a0 (⟨a1.Id, a1.Card, a1.Owner, a1.Control, a1.Zone, a1.Token, (!a1.Tapped), (!a1.Sick), a1.Deadly, 7, a1.Counters, 7, a1.Copy, a1.Attack, a1.Blocked, a1.Blocks, a1.Shield⟩ : api_Object)) fun x347 =>
                            Option.bind (base_Same x347 (⟨([] : List UInt8), (⟨0, 0, (⟨0, 0, 0, 0, 0⟩ : (A5 Int))⟩ : api_Cost), 0, (⟨0, 0, ([] : (List (List UInt8)))⟩ : api_Line), 0, 0, 0, ([] : (List api_Ability)), a1.Control⟩ : api_Traits)) fun x349 =>
                              some (.inr x349)
                        else
                          some (.inr false)
                  else
                    some (.inr false)
          else
            bif (a1.Zone == 5) then
              bif decide (a1.Copy ≥ 0) then
                  Option.bind (L28_alive) fun x353 =>
                    bif x353 then
                      Option.bind (base_Of a0 a1) fun x356 =>
                        Option.bind (base_Same x356 (⟨([] : List UInt8), (⟨0, 0, (⟨0, 0, 0, 0, 0⟩ : (A5 Int))⟩ : api_Cost), 0, (⟨0, 0, ([] : (List (List UInt8)))⟩ : api_Line), 0, 0, 0, ([] : (List api_Ability)), a1.Control⟩ : api_Traits)) fun x358 =>
                          bif x358 then
                            Option.bind (base_Of a0 (⟨a1.Id, IntKind.wrap .i64 (a1.Card + 1), a1.Owner, a1.Control, a1.Zone, a1.Token, (!a1.Tapped), (!a1.Sick), a1.Deadly, 7, a1.Counters, 7, a1.Copy, a1.Attack, a1.Blocked, a1.Blocks, a1.Shield⟩ : api_Object)) fun x361 =>
                              Option.bind (base_Same x361 (⟨([] : List UInt8), (⟨0, 0, (⟨0, 0, 0, 0, 0⟩ : (A5 Int))⟩ : api_Cost), 0, (⟨0, 0, ([] : (List (List UInt8)))⟩ : api_Line), 0, 0, 0, ([] : (List api_Ability)), a1.Control⟩ : api_Traits)) fun x363 =>
                                some (.inr x363)
                          else
                            some (.inr false)
                    else
                      some (.inr false)
              else
                  Option.bind (L28_alive) fun x365 =>
                    bif x365 then
                      Option.bind (base_Of a0 a1) fun x368 =>
                        Option.bind (base_Same x368 (⟨([] : List UInt8), (⟨0, 0, (⟨0, 0, 0, 0, 0⟩ : (A5 Int))⟩ : api_Cost), 0, (⟨0, 0, ([] : (List (List UInt8)))⟩ : api_Line), 0, 0, 0, ([] : (List api_Ability)), a1.Control⟩ : api_Traits)) fun x370 =>
                          bif x370 then
                            Option.bind (base_Of a0 (⟨a1.Id, a1.Card, a1.Owner, a1.Control, a1.Zone, a1.Token, (!a1.Tapped), (!a1.Sick), a1.Deadly, 7, a1.Counters, 7, a1.Copy, a1.Attack, a1.Blocked, a1.Blocks, a1.Shield⟩ : api_Object)) fun x373 =>
                              Option.bind (base_Same x373 (⟨([] : List UInt8), (⟨0, 0, (⟨0, 0, 0, 0, 0⟩ : (A5 Int))⟩ : api_Cost), 0, (⟨0, 0, ([] : (List (List UInt8)))⟩ : api_Line), 0, 0, 0, ([] : (List api_Ability)), a1.Control⟩ : api_Traits)) fun x375 =>
                                some (.inr x375)
                          else
                            some (.inr false)
                    else
                      some (.inr false)
            else
              bif decide (a1.Copy ≥ 0) then
                  Option.bind (L28_alive) fun x378 =>
                    bif x378 then
                      Option.bind (base_Of a0 a1) fun x381 =>
                        Option.bind (base_Same x381 (⟨([] : List UInt8), (⟨0, 0, (⟨0, 0, 0, 0, 0⟩ : (A5 Int))⟩ : api_Cost), 0, (⟨0, 0, ([] : (List (List UInt8)))⟩ : api_Line), 0, 0, 0, ([] : (List api_Ability)), a1.Owner⟩ : api_Traits)) fun x383 =>
                          bif x383 then
                            Option.bind (base_Of a0 (⟨a1.Id, IntKind.wrap .i64 (a1.Card + 1), a1.Owner, a1.Control, a1.Zone, a1.Token, (!a1.Tapped), (!a1.Sick), a1.Deadly, 7, a1.Counters, 7, a1.Copy, a1.Attack, a1.Blocked, a1.Blocks, a1.Shield⟩ : api_Object)) fun x386 =>
                              Option.bind (base_Same x386 (⟨([] : List UInt8), (⟨0, 0, (⟨0, 0, 0, 0, 0⟩ : (A5 Int))⟩ : api_Cost), 0, (⟨0, 0, ([] : (List (List UInt8)))⟩ : api_Line), 0, 0, 0, ([] : (List api_Ability)), a1.Owner⟩ : api_Traits)) fun x388 =>
                                some (.inr x388)
                          else
                            some (.inr false)
                    else
                      some (.inr false)
              else
                  Option.bind (L28_alive) fun x390 =>
                    bif x390 then
                      Option.bind (base_Of a0 a1) fun x393 =>
                        Option.bind (base_Same x393 (⟨([] : List UInt8), (⟨0, 0, (⟨0, 0, 0, 0, 0⟩ : (A5 Int))⟩ : api_Cost), 0, (⟨0, 0, ([] : (List (List UInt8)))⟩ : api_Line), 0, 0, 0, ([] : (List api_Ability)), a1.Owner⟩ : api_Traits)) fun x395 =>
                          bif x395 then
                            Option.bind (base_Of a0 (⟨a1.Id, a1.Card, a1.Owner, a1.Control, a1.Zone, a1.Token, (!a1.Tapped), (!a1.Sick), a1.Deadly, 7, a1.Counters, 7, a1.Copy, a1.Attack, a1.Blocked, a1.Blocks, a1.Shield⟩ : api_Object)) fun x398 =>
                              Option.bind (base_Same x398 (⟨([] : List UInt8), (⟨0, 0, (⟨0, 0, 0, 0, 0⟩ : (A5 Int))⟩ : api_Cost), 0, (⟨0, 0, ([] : (List (List UInt8)))⟩ : api_Line), 0, 0, 0, ([] : (List api_Ability)), a1.Owner⟩ : api_Traits)) fun x400 =>
                                some (.inr x400)
                          else
                            some (.inr false)
                    else
                      some (.inr false)
      else
        bif (a1.Zone == 0) then
          bif decide (a1.Copy ≥ 0) then
              Option.bind (L28_alive) fun x404 =>
                bif x404 then
                  Option.bind (base_Of a0 a1) fun x407 =>
                    Option.bind (base_Same x407 (⟨([] : List UInt8), (⟨0, 0, (⟨0, 0, 0, 0, 0⟩ : (A5 Int))⟩ : api_Cost), 0, (⟨0, 0, ([] : (List (List UInt8)))⟩ : api_Line), 0, 0, 0, ([] : (List api_Ability)), a1.Control⟩ : api_Traits)) fun x409 =>
                      bif x409 then
                        Option.bind (base_Of a0 (⟨a1.Id, IntKind.wrap .i64 (a1.Card + 1), a1.Owner, a1.Control, a1.Zone, a1.Token, (!a1.Tapped), (!a1.Sick), a1.Deadly, 7, a1.Counters, 7, a1.Copy, a1.Attack, a1.Blocked, a1.Blocks, a1.Shield⟩ : api_Object)) fun x412 =>
                          Option.bind (base_Same x412 (⟨([] : List UInt8), (⟨0, 0, (⟨0, 0, 0, 0, 0⟩ : (A5 Int))⟩ : api_Cost), 0, (⟨0, 0, ([] : (List (List UInt8)))⟩ : api_Line), 0, 0, 0, ([] : (List api_Ability)), a1.Control⟩ : api_Traits)) fun x414 =>
                            some (.inr x414)
                      else
                        some (.inr false)
                else
                  some (.inr false)
          else
              Option.bind (L28_alive) fun x416 =>
                bif x416 then
                  Option.bind (base_Of a0 a1) fun x419 =>
                    Option.bind (base_Same x419 (⟨([] : List UInt8), (⟨0, 0, (⟨0, 0, 0, 0, 0⟩ : (A5 Int))⟩ : api_Cost), 0, (⟨0, 0, ([] : (List (List UInt8)))⟩ : api_Line), 0, 0, 0, ([] : (List api_Ability)), a1.Control⟩ : api_Traits)) fun x421 =>
                      bif x421 then
                        Option.bind (base_Of a0 (⟨a1.Id, a1.Card, a1.Owner, a1.Control, a1.Zone, a1.Token, (!a1.Tapped), (!a1.Sick), a1.Deadly, 7, a1.Counters, 7, a1.Copy, a1.Attack, a1.Blocked, a1.Blocks, a1.Shield⟩ : api_Object)) fun x424 =>
                          Option.bind (base_Same x424 (⟨([] : List UInt8), (⟨0, 0, (⟨0, 0, 0, 0, 0⟩ : (A5 Int))⟩ : api_Cost), 0, (⟨0, 0, ([] : (List (List UInt8)))⟩ : api_Line), 0, 0, 0, ([] : (List api_Ability)), a1.Control⟩ : api_Traits)) fun x426 =>
                            some (.inr x426)
                      else
                        some (.inr false)
                else
                  some (.inr false)
        else
          bif (a1.Zone == 5) then
            bif decide (a1.Copy ≥ 0) then
                Option.bind (L28_alive) fun x430 =>
                  bif x430 then
                    Option.bind (base_Of a0 a1) fun x433 =>
                      Option.bind (base_Same x433 (⟨([] : List UInt8), (⟨0, 0, (⟨0, 0, 0, 0, 0⟩ : (A5 Int))⟩ : api_Cost), 0, (⟨0, 0, ([] : (List (List UInt8)))⟩ : api_Line), 0, 0, 0, ([] : (List api_Ability)), a1.Control⟩ : api_Traits)) fun x435 =>
                        bif x435 then
                          Option.bind (base_Of a0 (⟨a1.Id, IntKind.wrap .i64 (a1.Card + 1), a1.Owner, a1.Control, a1.Zone, a1.Token, (!a1.Tapped), (!a1.Sick), a1.Deadly, 7, a1.Counters, 7, a1.Copy, a1.Attack, a1.Blocked, a1.Blocks, a1.Shield⟩ : api_Object)) fun x438 =>
                            Option.bind (base_Same x438 (⟨([] : List UInt8), (⟨0, 0, (⟨0, 0, 0, 0, 0⟩ : (A5 Int))⟩ : api_Cost), 0, (⟨0, 0, ([] : (List (List UInt8)))⟩ : api_Line), 0, 0, 0, ([] : (List api_Ability)), a1.Control⟩ : api_Traits)) fun x440 =>
                              some (.inr x440)
                        else
                          some (.inr false)
                  else
                    some (.inr false)
            else
                Option.bind (L28_alive) fun x442 =>
                  bif x442 then
                    Option.bind (base_Of a0 a1) fun x445 =>
                      Option.bind (base_Same x445 (⟨([] : List UInt8), (⟨0, 0, (⟨0, 0, 0, 0, 0⟩ : (A5 Int))⟩ : api_Cost), 0, (⟨0, 0, ([] : (List (List UInt8)))⟩ : api_Line), 0, 0, 0, ([] : (List api_Ability)), a1.Control⟩ : api_Traits)) fun x447 =>
                        bif x447 then
                          Option.bind (base_Of a0 (⟨a1.Id, a1.Card, a1.Owner, a1.Control, a1.Zone, a1.Token, (!a1.Tapped), (!a1.Sick), a1.Deadly, 7, a1.Counters, 7, a1.Copy, a1.Attack, a1.Blocked, a1.Blocks, a1.Shield⟩ : api_Object)) fun x450 =>
                            Option.bind (base_Same x450 (⟨([] : List UInt8), (⟨0, 0, (⟨0, 0, 0, 0, 0⟩ : (A5 Int))⟩ : api_Cost), 0, (⟨0, 0, ([] : (List (List UInt8)))⟩ : api_Line), 0, 0, 0, ([] : (List api_Ability)), a1.Control⟩ : api_Traits)) fun x452 =>
                              some (.inr x452)
                        else
                          some (.inr false)
                  else
                    some (.inr false)
          else
            bif decide (a1.Copy ≥ 0) then
                Option.bind (L28_alive) fun x455 =>
                  bif x455 then
                    Option.bind (base_Of a0 a1) fun x458 =>
                      Option.bind (base_Same x458 (⟨([] : List UInt8), (⟨0, 0, (⟨0, 0, 0, 0, 0⟩ : (A5 Int))⟩ : api_Cost), 0, (⟨0, 0, ([] : (List (List UInt8)))⟩ : api_Line), 0, 0, 0, ([] : (List api_Ability)), a1.Owner⟩ : api_Traits)) fun x460 =>
                        bif x460 then
                          Option.bind (base_Of a0 (⟨a1.Id, IntKind.wrap .i64 (a1.Card + 1), a1.Owner, a1.Control, a1.Zone, a1.Token, (!a1.Tapped), (!a1.Sick), a1.Deadly, 7, a1.Counters, 7, a1.Copy, a1.Attack, a1.Blocked, a1.Blocks, a1.Shield⟩ : api_Object)) fun x463 =>
                            Option.bind (base_Same x463 (⟨([] : List UInt8), (⟨0, 0, (⟨0, 0, 0, 0, 0⟩ : (A5 Int))⟩ : api_Cost), 0, (⟨0, 0, ([] : (List (List UInt8)))⟩ : api_Line), 0, 0, 0, ([] : (List api_Ability)), a1.Owner⟩ : api_Traits)) fun x465 =>
                              some (.inr x465)
                        else
                          some (.inr false)
                  else
                    some (.inr false)
            else
                Option.bind (L28_alive) fun x467 =>
                  bif x467 then
                    Option.bind (base_Of a0 a1) fun x470 =>
                      Option.bind (base_Same x470 (⟨([] : List UInt8), (⟨0, 0, (⟨0, 0, 0, 0, 0⟩ : (A5 Int))⟩ : api_Cost), 0, (⟨0, 0, ([] : (List (List UInt8)))⟩ : api_Line), 0, 0, 0, ([] : (List api_Ability)), a1.Owner⟩ : api_Traits)) fun x472 =>
                        bif x472 then
                          Option.bind (base_Of a0 (⟨a1.Id, a1.Card, a1.Owner, a1.Control, a1.Zone, a1.Token, (!a1.Tapped), (!a1.Sick), a1.Deadly, 7, a1.Counters, 7, a1.Copy, a1.Attack, a1.Blocked, a1.Blocks, a1.Shield⟩ : api_Object)) fun x475 =>
                            Option.bind (base_Same x475 (⟨([] : List UInt8), (⟨0, 0, (⟨0, 0, 0, 0, 0⟩ : (A5 Int))⟩ : api_Cost), 0, (⟨0, 0, ([] : (List (List UInt8)))⟩ : api_Line), 0, 0, 0, ([] : (List api_Ability)), a1.Owner⟩ : api_Traits)) fun x477 =>
                              some (.inr x477)
                        else
                          some (.inr false)
                  else
                    some (.inr false)
noncomputable def L28_BaseCopies (a0 : (List api_Card)) (a1 : api_Object) : Option Bool := (L28_BaseCopies_0 a0 a1).bind (endO L28_BaseCopies_step)
end
end Go.PW
