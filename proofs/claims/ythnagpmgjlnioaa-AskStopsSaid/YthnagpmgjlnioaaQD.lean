import Derived.Test.YthnagpmgjlnioaaPwR
namespace Go.PW
open Go.RowKit
noncomputable section
structure api_Option where
  Kind : Int
  A : Int
  B : Int
  deriving DecidableEq, Inhabited
def c_api_Option (x : api_Option) : List Tree := (cI .i64) x.Kind ++ ((cI .i64) x.A ++ ((cI .i64) x.B))
structure api_Choice where
  Kind : Int
  Player : Int
  Source : Int
  Least : Int
  Most : Int
  N : Int
  Options : (List api_Option)
  deriving DecidableEq, Inhabited
def c_api_Choice (x : api_Choice) : List Tree := (cI .i64) x.Kind ++ ((cI .i64) x.Player ++ ((cI .i64) x.Source ++ ((cI .i64) x.Least ++ ((cI .i64) x.Most ++ ((cI .i64) x.N ++ ((cL c_api_Option) x.Options))))))
structure ask_Asker where
  answers : (List (List Int))
  used : Int
  pending : api_Choice
  waits : Bool
  bad : Bool
  deriving DecidableEq, Inhabited
def c_ask_Asker (x : ask_Asker) : List Tree := (cL (cL (cI .i64))) x.answers ++ ((cI .i64) x.used ++ (c_api_Choice x.pending ++ (cB x.waits ++ (cB x.bad))))
structure cardgameref36_Asker where
  Answers : (List (List Int))
  Choice : api_Choice
  Waits : Bool
  Wrong : Bool
  N : Int
  deriving DecidableEq, Inhabited
def c_cardgameref36_Asker (x : cardgameref36_Asker) : List Tree := (cL (cL (cI .i64))) x.Answers ++ (c_api_Choice x.Choice ++ (cB x.Waits ++ (cB x.Wrong ++ ((cI .i64) x.N))))
inductive slices_Index___int_int__S where
  | L0 (v0 : (List Int)) (v1 : Int) (v7 : Int) (v8 : Int)
def slices_Index___int_int__L0 (v0 : (List Int)) (v1 : Int) (v7 : Int) (v8 : Int) : Option (slices_Index___int_int__S ⊕ Int) :=
  bif decide (v8 < v7) then
    Option.bind (idx? v0 v8) fun x2 =>
      bif (v1 == x2) then
        some (.inr v8)
      else
        some (.inl (.L0 v0 v1 v7 (IntKind.wrap .i64 (v8 + 1))))
  else
    some (.inr (-1))
def slices_Index___int_int__step : slices_Index___int_int__S → Option (slices_Index___int_int__S ⊕ Int)
  | .L0 v0 v1 v7 v8 => slices_Index___int_int__L0 v0 v1 v7 v8
def slices_Index___int_int__0 (a0 : (List Int)) (a1 : Int) : Option (slices_Index___int_int__S ⊕ Int) :=
  some (.inl (.L0 a0 a1 (a0.length : Int) 0))
noncomputable def slices_Index___int_int_ (a0 : (List Int)) (a1 : Int) : Option Int := (slices_Index___int_int__0 a0 a1).bind (endO slices_Index___int_int__step)
abbrev slices_Contains___int_int__S := Empty
def slices_Contains___int_int__step : slices_Contains___int_int__S → Option (slices_Contains___int_int__S ⊕ Bool) := fun s => nomatch s
def slices_Contains___int_int__0 (a0 : (List Int)) (a1 : Int) : Option (slices_Contains___int_int__S ⊕ Bool) :=
  Option.bind (slices_Index___int_int_ a0 a1) fun x1 =>
    some (.inr (decide (x1 ≥ 0)))
noncomputable def slices_Contains___int_int_ (a0 : (List Int)) (a1 : Int) : Option Bool := (slices_Contains___int_int__0 a0 a1).bind (endO slices_Contains___int_int__step)
abbrev idset_Index_S := Empty
def idset_Index_step : idset_Index_S → Option (idset_Index_S ⊕ Int) := fun s => nomatch s
def idset_Index_0 (a0 : (List Int)) (a1 : Int) : Option (idset_Index_S ⊕ Int) :=
  Option.bind (slices_Index___int_int_ a0 a1) fun x1 =>
    some (.inr x1)
noncomputable def idset_Index (a0 : (List Int)) (a1 : Int) : Option Int := (idset_Index_0 a0 a1).bind (endO idset_Index_step)
abbrev idset_Has_S := Empty
def idset_Has_step : idset_Has_S → Option (idset_Has_S ⊕ Bool) := fun s => nomatch s
def idset_Has_0 (a0 : (List Int)) (a1 : Int) : Option (idset_Has_S ⊕ Bool) :=
  Option.bind (slices_Contains___int_int_ a0 a1) fun x1 =>
    some (.inr x1)
noncomputable def idset_Has (a0 : (List Int)) (a1 : Int) : Option Bool := (idset_Has_0 a0 a1).bind (endO idset_Has_step)
abbrev ask_copied_int__S := Empty
def ask_copied_int__step : ask_copied_int__S → Option (ask_copied_int__S ⊕ (List Int)) := fun s => nomatch s
def ask_copied_int__0 (a0 : (List Int)) : Option (ask_copied_int__S ⊕ (List Int)) :=
  Option.bind (app? 8 [] a0) fun x1 =>
    some (.inr x1)
noncomputable def ask_copied_int_ (a0 : (List Int)) : Option (List Int) := (ask_copied_int__0 a0).bind (endO ask_copied_int__step)
abbrev R36_copied_S := Empty
def R36_copied_step : R36_copied_S → Option (R36_copied_S ⊕ (List Int)) := fun s => nomatch s
def R36_copied_0 (a0 : (List Int)) : Option (R36_copied_S ⊕ (List Int)) :=
  Option.bind (app? 8 [] a0) fun x1 =>
    some (.inr x1)
noncomputable def R36_copied (a0 : (List Int)) : Option (List Int) := (R36_copied_0 a0).bind (endO R36_copied_step)
abbrev ask_copied_api_Option__S := Empty
def ask_copied_api_Option__step : ask_copied_api_Option__S → Option (ask_copied_api_Option__S ⊕ (List api_Option)) := fun s => nomatch s
def ask_copied_api_Option__0 (a0 : (List api_Option)) : Option (ask_copied_api_Option__S ⊕ (List api_Option)) :=
  Option.bind (app? 24 [] a0) fun x1 =>
    some (.inr x1)
noncomputable def ask_copied_api_Option_ (a0 : (List api_Option)) : Option (List api_Option) := (ask_copied_api_Option__0 a0).bind (endO ask_copied_api_Option__step)
abbrev R36_Copy_S := Empty
def R36_Copy_step : R36_Copy_S → Option (R36_Copy_S ⊕ api_Choice) := fun s => nomatch s
def R36_Copy_0 (a0 : api_Choice) : Option (R36_Copy_S ⊕ api_Choice) :=
  Option.bind (app? 24 [] a0.Options) fun x1 =>
    some (.inr (⟨a0.Kind, a0.Player, a0.Source, a0.Least, a0.Most, a0.N, x1⟩ : api_Choice))
noncomputable def R36_Copy (a0 : api_Choice) : Option api_Choice := (R36_Copy_0 a0).bind (endO R36_Copy_step)
abbrev R36_single_S := Empty
def R36_single_step : R36_single_S → Option (R36_single_S ⊕ Bool) := fun s => nomatch s
def R36_single_0 (a0 : Int) : Option (R36_single_S ⊕ Bool) :=
  bif (a0 == 1) then
    some (.inr true)
  else
    bif (a0 == 2) then
      some (.inr true)
    else
      bif (a0 == 9) then
        some (.inr true)
      else
        bif (a0 == 10) then
          some (.inr true)
        else
          some (.inr (a0 == 11))
noncomputable def R36_single (a0 : Int) : Option Bool := (R36_single_0 a0).bind (endO R36_single_step)
inductive R36_indexes_S where
  | L0 (v0 : (List Int)) (v1 : Int) (v5 : Int)
  | L1 (v0 : (List Int)) (v1 : Int) (v5 : Int) (v6 : Int)
def R36_indexes_L0 (v0 : (List Int)) (v1 : Int) (v5 : Int) : Option (R36_indexes_S ⊕ Bool) :=
  bif decide (v5 < (v0.length : Int)) then
    Option.bind (idx? v0 v5) fun x2 =>
      bif decide (x2 < 0) then
        some (.inr false)
      else
        Option.bind (idx? v0 v5) fun x5 =>
          bif decide (x5 ≥ v1) then
            some (.inr false)
          else
            some (.inl (.L1 v0 v1 v5 0))
  else
    some (.inr true)
def R36_indexes_L1 (v0 : (List Int)) (v1 : Int) (v5 : Int) (v6 : Int) : Option (R36_indexes_S ⊕ Bool) :=
  bif decide (v6 < v5) then
      Option.bind (idx? v0 v6) fun x9 =>
        Option.bind (idx? v0 v5) fun x11 =>
          bif (x9 == x11) then
            some (.inr false)
          else
            some (.inl (.L1 v0 v1 v5 (IntKind.wrap .i64 (v6 + 1))))
  else
    some (.inl (.L0 v0 v1 (IntKind.wrap .i64 (v5 + 1))))
def R36_indexes_step : R36_indexes_S → Option (R36_indexes_S ⊕ Bool)
  | .L0 v0 v1 v5 => R36_indexes_L0 v0 v1 v5
  | .L1 v0 v1 v5 v6 => R36_indexes_L1 v0 v1 v5 v6
def R36_indexes_0 (a0 : (List Int)) (a1 : Int) : Option (R36_indexes_S ⊕ Bool) :=
  some (.inl (.L0 a0 a1 0))
noncomputable def R36_indexes (a0 : (List Int)) (a1 : Int) : Option Bool := (R36_indexes_0 a0 a1).bind (endO R36_indexes_step)
inductive R36_apart_S where
  | L0 (v1 : (List Int)) (b30000000 : api_Choice) (v5 : Int)
  | L1 (v1 : (List Int)) (b30000000 : api_Choice) (v5 : Int) (v6 : Int)
def R36_apart_L0 (v1 : (List Int)) (b30000000 : api_Choice) (v5 : Int) : Option (R36_apart_S ⊕ Bool) :=
  bif decide (v5 < (v1.length : Int)) then
    some (.inl (.L1 v1 b30000000 v5 0))
  else
    some (.inr true)
def R36_apart_L1 (v1 : (List Int)) (b30000000 : api_Choice) (v5 : Int) (v6 : Int) : Option (R36_apart_S ⊕ Bool) :=
  bif decide (v6 < v5) then
      Option.bind (idx? v1 v6) fun x3 =>
        Option.bind (idx? b30000000.Options x3) fun x5 =>
          Option.bind (idx? v1 v5) fun x7 =>
            Option.bind (idx? b30000000.Options x7) fun x9 =>
              bif (x5.A == x9.A) then
                some (.inr false)
              else
                some (.inl (.L1 v1 b30000000 v5 (IntKind.wrap .i64 (v6 + 1))))
  else
    some (.inl (.L0 v1 b30000000 (IntKind.wrap .i64 (v5 + 1))))
def R36_apart_step : R36_apart_S → Option (R36_apart_S ⊕ Bool)
  | .L0 v1 b30000000 v5 => R36_apart_L0 v1 b30000000 v5
  | .L1 v1 b30000000 v5 v6 => R36_apart_L1 v1 b30000000 v5 v6
def R36_apart_0 (a0 : api_Choice) (a1 : (List Int)) : Option (R36_apart_S ⊕ Bool) :=
  some (.inl (.L0 a1 a0 0))
noncomputable def R36_apart (a0 : api_Choice) (a1 : (List Int)) : Option Bool := (R36_apart_0 a0 a1).bind (endO R36_apart_step)
inductive ask_indexes_S where
  | L0 (v1 : (List Int)) (b30000000 : api_Choice) (v7 : (List Int)) (v8 : Int) (v9 : Int)
def ask_indexes_L0 (v1 : (List Int)) (b30000000 : api_Choice) (v7 : (List Int)) (v8 : Int) (v9 : Int) : Option (ask_indexes_S ⊕ Bool) :=
  bif decide (v9 < v8) then
    Option.bind (idx? v7 v9) fun x2 =>
      bif decide (x2 < 0) then
        some (.inr false)
      else
        bif decide (x2 ≥ (b30000000.Options.length : Int)) then
          some (.inr false)
        else
          Option.bind (idset_Index v1 x2) fun x6 =>
            bif (x6 != v9) then
              some (.inr false)
            else
              some (.inl (.L0 v1 b30000000 v7 v8 (IntKind.wrap .i64 (v9 + 1))))
  else
    some (.inr true)
def ask_indexes_step : ask_indexes_S → Option (ask_indexes_S ⊕ Bool)
  | .L0 v1 b30000000 v7 v8 v9 => ask_indexes_L0 v1 b30000000 v7 v8 v9
def ask_indexes_0 (a0 : api_Choice) (a1 : (List Int)) : Option (ask_indexes_S ⊕ Bool) :=
  some (.inl (.L0 a1 a0 a1 (a1.length : Int) 0))
noncomputable def ask_indexes (a0 : api_Choice) (a1 : (List Int)) : Option Bool := (ask_indexes_0 a0 a1).bind (endO ask_indexes_step)
inductive ask_distinct_S where
  | L0 (b30000000 : api_Choice) (v5 : (List Int)) (v8 : (List Int)) (v9 : Int) (v10 : Int)
def ask_distinct_L0 (b30000000 : api_Choice) (v5 : (List Int)) (v8 : (List Int)) (v9 : Int) (v10 : Int) : Option (ask_distinct_S ⊕ Bool) :=
  bif decide (v10 < v9) then
    Option.bind (idx? v8 v10) fun x2 =>
      Option.bind (idx? b30000000.Options x2) fun x4 =>
        Option.bind (idset_Has v5 x4.A) fun x6 =>
          bif x6 then
            some (.inr false)
          else
            Option.bind (idx? b30000000.Options x2) fun x9 =>
              Option.bind (app? 8 v5 [x9.A]) fun x11 =>
                some (.inl (.L0 b30000000 x11 v8 v9 (IntKind.wrap .i64 (v10 + 1))))
  else
    some (.inr true)
def ask_distinct_step : ask_distinct_S → Option (ask_distinct_S ⊕ Bool)
  | .L0 b30000000 v5 v8 v9 v10 => ask_distinct_L0 b30000000 v5 v8 v9 v10
def ask_distinct_0 (a0 : api_Choice) (a1 : (List Int)) : Option (ask_distinct_S ⊕ Bool) :=
  some (.inl (.L0 a0 ([] : (List Int)) a1 (a1.length : Int) 0))
noncomputable def ask_distinct (a0 : api_Choice) (a1 : (List Int)) : Option Bool := (ask_distinct_0 a0 a1).bind (endO ask_distinct_step)
inductive ask_assigned_S where
  | L0 (v1 : (List Int)) (b30000000 : api_Choice) (v5 : Int) (v8 : (List Int)) (v9 : Int) (v10 : Int)
def ask_assigned_L0 (v1 : (List Int)) (b30000000 : api_Choice) (v5 : Int) (v8 : (List Int)) (v9 : Int) (v10 : Int) : Option (ask_assigned_S ⊕ Bool) :=
  bif decide (v10 < v9) then
    Option.bind (idx? v8 v10) fun x2 =>
      bif decide (x2 < 0) then
        some (.inr false)
      else
        bif decide (x2 > 1000000) then
          some (.inr false)
        else
          some (.inl (.L0 v1 b30000000 (IntKind.wrap .i64 (v5 + x2)) v8 v9 (IntKind.wrap .i64 (v10 + 1))))
  else
    bif ((v1.length : Int) == (b30000000.Options.length : Int)) then
      some (.inr (v5 == b30000000.N))
    else
      some (.inr false)
def ask_assigned_step : ask_assigned_S → Option (ask_assigned_S ⊕ Bool)
  | .L0 v1 b30000000 v5 v8 v9 v10 => ask_assigned_L0 v1 b30000000 v5 v8 v9 v10
def ask_assigned_0 (a0 : api_Choice) (a1 : (List Int)) : Option (ask_assigned_S ⊕ Bool) :=
  some (.inl (.L0 a1 a0 0 a1 (a1.length : Int) 0))
noncomputable def ask_assigned (a0 : api_Choice) (a1 : (List Int)) : Option Bool := (ask_assigned_0 a0 a1).bind (endO ask_assigned_step)
inductive ask_first_S where
  | L0 (v3 : (List Int)) (v5 : Int) (v6 : Int)
def ask_first_L0 (v3 : (List Int)) (v5 : Int) (v6 : Int) : Option (ask_first_S ⊕ (List Int)) :=
  bif decide (v6 < v5) then
    Option.bind (app? 8 v3 [v6]) fun x2 =>
      some (.inl (.L0 x2 v5 (IntKind.wrap .i64 (v6 + 1))))
  else
    some (.inr v3)
def ask_first_step : ask_first_S → Option (ask_first_S ⊕ (List Int))
  | .L0 v3 v5 v6 => ask_first_L0 v3 v5 v6
def ask_first_0 (a0 : Int) : Option (ask_first_S ⊕ (List Int)) :=
  some (.inl (.L0 ([] : (List Int)) a0 0))
noncomputable def ask_first (a0 : Int) : Option (List Int) := (ask_first_0 a0).bind (endO ask_first_step)
inductive R36_count_S where
  | L0 (v0 : Int) (v3 : (List Int)) (v4 : Int)
def R36_count_L0 (v0 : Int) (v3 : (List Int)) (v4 : Int) : Option (R36_count_S ⊕ (List Int)) :=
  bif decide (v4 < v0) then
    Option.bind (app? 8 v3 [v4]) fun x2 =>
      some (.inl (.L0 v0 x2 (IntKind.wrap .i64 (v4 + 1))))
  else
    some (.inr v3)
def R36_count_step : R36_count_S → Option (R36_count_S ⊕ (List Int))
  | .L0 v0 v3 v4 => R36_count_L0 v0 v3 v4
def R36_count_0 (a0 : Int) : Option (R36_count_S ⊕ (List Int)) :=
  some (.inl (.L0 a0 ([] : (List Int)) 0))
noncomputable def R36_count (a0 : Int) : Option (List Int) := (R36_count_0 a0).bind (endO R36_count_step)
abbrev ask_Valid_S := Empty
def ask_Valid_step : ask_Valid_S → Option (ask_Valid_S ⊕ Bool) := fun s => nomatch s
def ask_Valid_0 (a0 : api_Choice) (a1 : (List Int)) : Option (ask_Valid_S ⊕ Bool) :=
  bif decide ((a1.length : Int) > 256) then
    some (.inr false)
  else
    bif (a0.Kind == 1) then
      bif (a0.Kind == 1) then
        bif ((a1.length : Int) == 1) then
          Option.bind (ask_indexes a0 a1) fun x5 =>
            some (.inr x5)
        else
          some (.inr false)
      else
        bif (a0.Kind == 3) then
          bif decide ((a1.length : Int) ≥ a0.Least) then
            bif decide ((a1.length : Int) ≤ a0.Most) then
              Option.bind (ask_indexes a0 a1) fun x10 =>
                some (.inr x10)
            else
              some (.inr false)
          else
            some (.inr false)
        else
          bif (a0.Kind == 4) then
            bif ((a1.length : Int) == (a0.Options.length : Int)) then
              Option.bind (ask_indexes a0 a1) fun x14 =>
                some (.inr x14)
            else
              some (.inr false)
          else
            bif (a0.Kind == 5) then
                bif ((a1.length : Int) == 1) then
                  Option.bind (idx? a1 0) fun x18 =>
                    bif decide (x18 ≥ a0.Least) then
                      Option.bind (idx? a1 0) fun x21 =>
                        some (.inr (decide (x21 ≤ a0.Most)))
                    else
                      some (.inr false)
                else
                  some (.inr false)
            else
              bif (a0.Kind == 6) then
                bif (a0.Kind == 6) then
                  Option.bind (ask_indexes a0 a1) fun x25 =>
                    bif x25 then
                      Option.bind (ask_distinct a0 a1) fun x28 =>
                        some (.inr x28)
                    else
                      some (.inr false)
                else
                  bif (a0.Kind == 8) then
                    Option.bind (ask_assigned a0 a1) fun x31 =>
                      some (.inr x31)
                  else
                    some (.inr false)
              else
                bif (a0.Kind == 7) then
                  Option.bind (ask_indexes a0 a1) fun x34 =>
                    bif x34 then
                      Option.bind (ask_distinct a0 a1) fun x37 =>
                        some (.inr x37)
                    else
                      some (.inr false)
                else
                  bif (a0.Kind == 8) then
                    Option.bind (ask_assigned a0 a1) fun x40 =>
                      some (.inr x40)
                  else
                    some (.inr false)
    else
      bif (a0.Kind == 2) then
        bif (a0.Kind == 2) then
          bif ((a1.length : Int) == 1) then
            Option.bind (ask_indexes a0 a1) fun x45 =>
              some (.inr x45)
          else
            some (.inr false)
        else
          bif (a0.Kind == 3) then
            bif decide ((a1.length : Int) ≥ a0.Least) then
              bif decide ((a1.length : Int) ≤ a0.Most) then
                Option.bind (ask_indexes a0 a1) fun x50 =>
                  some (.inr x50)
              else
                some (.inr false)
            else
              some (.inr false)
          else
            bif (a0.Kind == 4) then
              bif ((a1.length : Int) == (a0.Options.length : Int)) then
                Option.bind (ask_indexes a0 a1) fun x54 =>
                  some (.inr x54)
              else
                some (.inr false)
            else
              bif (a0.Kind == 5) then
                  bif ((a1.length : Int) == 1) then
                    Option.bind (idx? a1 0) fun x58 =>
                      bif decide (x58 ≥ a0.Least) then
                        Option.bind (idx? a1 0) fun x61 =>
                          some (.inr (decide (x61 ≤ a0.Most)))
                      else
                        some (.inr false)
                  else
                    some (.inr false)
              else
                bif (a0.Kind == 6) then
                  bif (a0.Kind == 6) then
                    Option.bind (ask_indexes a0 a1) fun x65 =>
                      bif x65 then
                        Option.bind (ask_distinct a0 a1) fun x68 =>
                          some (.inr x68)
                      else
                        some (.inr false)
                  else
                    bif (a0.Kind == 8) then
                      Option.bind (ask_assigned a0 a1) fun x71 =>
                        some (.inr x71)
                    else
                      some (.inr false)
                else
                  bif (a0.Kind == 7) then
                    Option.bind (ask_indexes a0 a1) fun x74 =>
                      bif x74 then
                        Option.bind (ask_distinct a0 a1) fun x77 =>
                          some (.inr x77)
                      else
                        some (.inr false)
                  else
                    bif (a0.Kind == 8) then
                      Option.bind (ask_assigned a0 a1) fun x80 =>
                        some (.inr x80)
                    else
                      some (.inr false)
      else
        bif (a0.Kind == 9) then
          bif (a0.Kind == 9) then
            bif ((a1.length : Int) == 1) then
              Option.bind (ask_indexes a0 a1) fun x85 =>
                some (.inr x85)
            else
              some (.inr false)
          else
            bif (a0.Kind == 3) then
              bif decide ((a1.length : Int) ≥ a0.Least) then
                bif decide ((a1.length : Int) ≤ a0.Most) then
                  Option.bind (ask_indexes a0 a1) fun x90 =>
                    some (.inr x90)
                else
                  some (.inr false)
              else
                some (.inr false)
            else
              bif (a0.Kind == 4) then
                bif ((a1.length : Int) == (a0.Options.length : Int)) then
                  Option.bind (ask_indexes a0 a1) fun x94 =>
                    some (.inr x94)
                else
                  some (.inr false)
              else
                bif (a0.Kind == 5) then
                    bif ((a1.length : Int) == 1) then
                      Option.bind (idx? a1 0) fun x98 =>
                        bif decide (x98 ≥ a0.Least) then
                          Option.bind (idx? a1 0) fun x101 =>
                            some (.inr (decide (x101 ≤ a0.Most)))
                        else
                          some (.inr false)
                    else
                      some (.inr false)
                else
                  bif (a0.Kind == 6) then
                    bif (a0.Kind == 6) then
                      Option.bind (ask_indexes a0 a1) fun x105 =>
                        bif x105 then
                          Option.bind (ask_distinct a0 a1) fun x108 =>
                            some (.inr x108)
                        else
                          some (.inr false)
                    else
                      bif (a0.Kind == 8) then
                        Option.bind (ask_assigned a0 a1) fun x111 =>
                          some (.inr x111)
                      else
                        some (.inr false)
                  else
                    bif (a0.Kind == 7) then
                      Option.bind (ask_indexes a0 a1) fun x114 =>
                        bif x114 then
                          Option.bind (ask_distinct a0 a1) fun x117 =>
                            some (.inr x117)
                        else
                          some (.inr false)
                    else
                      bif (a0.Kind == 8) then
                        Option.bind (ask_assigned a0 a1) fun x120 =>
                          some (.inr x120)
                      else
                        some (.inr false)
        else
          bif (a0.Kind == 10) then
            bif (a0.Kind == 10) then
              bif ((a1.length : Int) == 1) then
                Option.bind (ask_indexes a0 a1) fun x125 =>
                  some (.inr x125)
              else
                some (.inr false)
            else
              bif (a0.Kind == 3) then
                bif decide ((a1.length : Int) ≥ a0.Least) then
                  bif decide ((a1.length : Int) ≤ a0.Most) then
                    Option.bind (ask_indexes a0 a1) fun x130 =>
                      some (.inr x130)
                  else
                    some (.inr false)
                else
                  some (.inr false)
              else
                bif (a0.Kind == 4) then
                  bif ((a1.length : Int) == (a0.Options.length : Int)) then
                    Option.bind (ask_indexes a0 a1) fun x134 =>
                      some (.inr x134)
                  else
                    some (.inr false)
                else
                  bif (a0.Kind == 5) then
                      bif ((a1.length : Int) == 1) then
                        Option.bind (idx? a1 0) fun x138 =>
                          bif decide (x138 ≥ a0.Least) then
                            Option.bind (idx? a1 0) fun x141 =>
                              some (.inr (decide (x141 ≤ a0.Most)))
                          else
                            some (.inr false)
                      else
                        some (.inr false)
                  else
                    bif (a0.Kind == 6) then
                      bif (a0.Kind == 6) then
                        Option.bind (ask_indexes a0 a1) fun x145 =>
                          bif x145 then
                            Option.bind (ask_distinct a0 a1) fun x148 =>
                              some (.inr x148)
                          else
                            some (.inr false)
                      else
                        bif (a0.Kind == 8) then
                          Option.bind (ask_assigned a0 a1) fun x151 =>
                            some (.inr x151)
                        else
                          some (.inr false)
                    else
                      bif (a0.Kind == 7) then
                        Option.bind (ask_indexes a0 a1) fun x154 =>
                          bif x154 then
                            Option.bind (ask_distinct a0 a1) fun x157 =>
                              some (.inr x157)
                          else
                            some (.inr false)
                      else
                        bif (a0.Kind == 8) then
                          Option.bind (ask_assigned a0 a1) fun x160 =>
                            some (.inr x160)
                        else
                          some (.inr false)
          else
            bif (a0.Kind == 11) then
              bif ((a1.length : Int) == 1) then
                Option.bind (ask_indexes a0 a1) fun x164 =>
                  some (.inr x164)
              else
                some (.inr false)
            else
              bif (a0.Kind == 3) then
                bif decide ((a1.length : Int) ≥ a0.Least) then
                  bif decide ((a1.length : Int) ≤ a0.Most) then
                    Option.bind (ask_indexes a0 a1) fun x169 =>
                      some (.inr x169)
                  else
                    some (.inr false)
                else
                  some (.inr false)
              else
                bif (a0.Kind == 4) then
                  bif ((a1.length : Int) == (a0.Options.length : Int)) then
                    Option.bind (ask_indexes a0 a1) fun x173 =>
                      some (.inr x173)
                  else
                    some (.inr false)
                else
                  bif (a0.Kind == 5) then
                      bif ((a1.length : Int) == 1) then
                        Option.bind (idx? a1 0) fun x177 =>
                          bif decide (x177 ≥ a0.Least) then
                            Option.bind (idx? a1 0) fun x180 =>
                              some (.inr (decide (x180 ≤ a0.Most)))
                          else
                            some (.inr false)
                      else
                        some (.inr false)
                  else
                    bif (a0.Kind == 6) then
                      bif (a0.Kind == 6) then
                        Option.bind (ask_indexes a0 a1) fun x184 =>
                          bif x184 then
                            Option.bind (ask_distinct a0 a1) fun x187 =>
                              some (.inr x187)
                          else
                            some (.inr false)
                      else
                        bif (a0.Kind == 8) then
                          Option.bind (ask_assigned a0 a1) fun x190 =>
                            some (.inr x190)
                        else
                          some (.inr false)
                    else
                      bif (a0.Kind == 7) then
                        Option.bind (ask_indexes a0 a1) fun x193 =>
                          bif x193 then
                            Option.bind (ask_distinct a0 a1) fun x196 =>
                              some (.inr x196)
                          else
                            some (.inr false)
                      else
                        bif (a0.Kind == 8) then
                          Option.bind (ask_assigned a0 a1) fun x199 =>
                            some (.inr x199)
                        else
                          some (.inr false)
noncomputable def ask_Valid (a0 : api_Choice) (a1 : (List Int)) : Option Bool := (ask_Valid_0 a0 a1).bind (endO ask_Valid_step)
inductive R36_Valid_S where
  | L0 (v1 : (List Int)) (b30000000 : api_Choice) (v5 : Int) (v6 : Int) (v7 : Int)
def R36_Valid_L0 (v1 : (List Int)) (b30000000 : api_Choice) (v5 : Int) (v6 : Int) (v7 : Int) : Option (R36_Valid_S ⊕ Bool) :=
  bif decide (v7 < (v1.length : Int)) then
    Option.bind (idx? v1 v7) fun x40 =>
      bif decide (x40 < 0) then
        some (.inr false)
      else
        Option.bind (idx? v1 v7) fun x43 =>
          bif decide (x43 > 1000000) then
            some (.inr false)
          else
            Option.bind (idx? v1 v7) fun x46 =>
              some (.inl (.L0 v1 b30000000 v5 (IntKind.wrap .i64 (v6 + x46)) (IntKind.wrap .i64 (v7 + 1))))
  else
    bif ((v1.length : Int) == v5) then
      some (.inr (v6 == b30000000.N))
    else
      some (.inr false)
def R36_Valid_step : R36_Valid_S → Option (R36_Valid_S ⊕ Bool)
  | .L0 v1 b30000000 v5 v6 v7 => R36_Valid_L0 v1 b30000000 v5 v6 v7
def R36_Valid_0 (a0 : api_Choice) (a1 : (List Int)) : Option (R36_Valid_S ⊕ Bool) :=
  bif decide ((a1.length : Int) > 256) then
    some (.inr false)
  else
    Option.bind (R36_single a0.Kind) fun x2 =>
      bif x2 then
        bif ((a1.length : Int) == 1) then
          Option.bind (R36_indexes a1 (a0.Options.length : Int)) fun x6 =>
            some (.inr x6)
        else
          some (.inr false)
      else
        bif (a0.Kind == 3) then
          Option.bind (R36_indexes a1 (a0.Options.length : Int)) fun x9 =>
            bif x9 then
              bif decide ((a1.length : Int) ≥ a0.Least) then
                some (.inr (decide ((a1.length : Int) ≤ a0.Most)))
              else
                some (.inr false)
            else
              some (.inr false)
        else
          bif (a0.Kind == 4) then
            Option.bind (R36_indexes a1 (a0.Options.length : Int)) fun x14 =>
              bif x14 then
                some (.inr ((a1.length : Int) == (a0.Options.length : Int)))
              else
                some (.inr false)
          else
            bif (a0.Kind == 5) then
                bif ((a1.length : Int) == 1) then
                  Option.bind (idx? a1 0) fun x19 =>
                    bif decide (x19 ≥ a0.Least) then
                      Option.bind (idx? a1 0) fun x22 =>
                        some (.inr (decide (x22 ≤ a0.Most)))
                    else
                      some (.inr false)
                else
                  some (.inr false)
            else
              bif (a0.Kind == 6) then
                bif (a0.Kind == 6) then
                  Option.bind (R36_indexes a1 (a0.Options.length : Int)) fun x26 =>
                    bif x26 then
                      Option.bind (R36_apart a0 a1) fun x29 =>
                        some (.inr x29)
                    else
                      some (.inr false)
                else
                  bif (a0.Kind == 8) then
                    some (.inl (.L0 a1 a0 (a0.Options.length : Int) 0 0))
                  else
                    some (.inr false)
              else
                bif (a0.Kind == 7) then
                  Option.bind (R36_indexes a1 (a0.Options.length : Int)) fun x33 =>
                    bif x33 then
                      Option.bind (R36_apart a0 a1) fun x36 =>
                        some (.inr x36)
                    else
                      some (.inr false)
                else
                  bif (a0.Kind == 8) then
                    some (.inl (.L0 a1 a0 (a0.Options.length : Int) 0 0))
                  else
                    some (.inr false)
noncomputable def R36_Valid (a0 : api_Choice) (a1 : (List Int)) : Option Bool := (R36_Valid_0 a0 a1).bind (endO R36_Valid_step)
inductive R36_Ints_S where
  | L0 (v0 : (List Int)) (v1 : (List Int)) (v5 : Int)
def R36_Ints_L0 (v0 : (List Int)) (v1 : (List Int)) (v5 : Int) : Option (R36_Ints_S ⊕ Bool) :=
  bif decide (v5 < (v0.length : Int)) then
      Option.bind (idx? v0 v5) fun x3 =>
        Option.bind (idx? v1 v5) fun x5 =>
          bif (x3 != x5) then
            some (.inr false)
          else
            some (.inl (.L0 v0 v1 (IntKind.wrap .i64 (v5 + 1))))
  else
    some (.inr true)
def R36_Ints_step : R36_Ints_S → Option (R36_Ints_S ⊕ Bool)
  | .L0 v0 v1 v5 => R36_Ints_L0 v0 v1 v5
def R36_Ints_0 (a0 : (List Int)) (a1 : (List Int)) : Option (R36_Ints_S ⊕ Bool) :=
  bif ((a0.length : Int) != (a1.length : Int)) then
    some (.inr false)
  else
    some (.inl (.L0 a0 a1 0))
noncomputable def R36_Ints (a0 : (List Int)) (a1 : (List Int)) : Option Bool := (R36_Ints_0 a0 a1).bind (endO R36_Ints_step)
abbrev ask_Default_S := Empty
def ask_Default_step : ask_Default_S → Option (ask_Default_S ⊕ (List Int)) := fun s => nomatch s
def ask_Default_0 (a0 : api_Choice) : Option (ask_Default_S ⊕ (List Int)) :=
  bif (a0.Kind == 1) then
    bif (a0.Kind == 1) then
      some (.inr [0])
    else
      bif (a0.Kind == 3) then
        Option.bind (ask_first (minI (maxI a0.Least 0) (a0.Options.length : Int))) fun x4 =>
          some (.inr x4)
      else
        bif (a0.Kind == 4) then
          Option.bind (ask_first (a0.Options.length : Int)) fun x7 =>
            some (.inr x7)
        else
          bif (a0.Kind == 5) then
            some (.inr [a0.Least])
          else
            bif (a0.Kind == 8) then
              bif decide ((a0.Options.length : Int) > 0) then
                Option.bind (make? 8 0 (a0.Options.length : Int) (a0.Options.length : Int)) fun x12 =>
                  Option.bind (idx? x12 0) fun x14 =>
                    Option.bind (set? x12 0 a0.N) fun x16 =>
                        some (.inr x16)
              else
                some (.inr ([] : (List Int)))
            else
              some (.inr ([] : (List Int)))
  else
    bif (a0.Kind == 2) then
      bif (a0.Kind == 2) then
        some (.inr [0])
      else
        bif (a0.Kind == 3) then
          Option.bind (ask_first (minI (maxI a0.Least 0) (a0.Options.length : Int))) fun x21 =>
            some (.inr x21)
        else
          bif (a0.Kind == 4) then
            Option.bind (ask_first (a0.Options.length : Int)) fun x24 =>
              some (.inr x24)
          else
            bif (a0.Kind == 5) then
              some (.inr [a0.Least])
            else
              bif (a0.Kind == 8) then
                bif decide ((a0.Options.length : Int) > 0) then
                  Option.bind (make? 8 0 (a0.Options.length : Int) (a0.Options.length : Int)) fun x29 =>
                    Option.bind (idx? x29 0) fun x31 =>
                      Option.bind (set? x29 0 a0.N) fun x33 =>
                          some (.inr x33)
                else
                  some (.inr ([] : (List Int)))
              else
                some (.inr ([] : (List Int)))
    else
      bif (a0.Kind == 9) then
        bif (a0.Kind == 9) then
          some (.inr [0])
        else
          bif (a0.Kind == 3) then
            Option.bind (ask_first (minI (maxI a0.Least 0) (a0.Options.length : Int))) fun x38 =>
              some (.inr x38)
          else
            bif (a0.Kind == 4) then
              Option.bind (ask_first (a0.Options.length : Int)) fun x41 =>
                some (.inr x41)
            else
              bif (a0.Kind == 5) then
                some (.inr [a0.Least])
              else
                bif (a0.Kind == 8) then
                  bif decide ((a0.Options.length : Int) > 0) then
                    Option.bind (make? 8 0 (a0.Options.length : Int) (a0.Options.length : Int)) fun x46 =>
                      Option.bind (idx? x46 0) fun x48 =>
                        Option.bind (set? x46 0 a0.N) fun x50 =>
                            some (.inr x50)
                  else
                    some (.inr ([] : (List Int)))
                else
                  some (.inr ([] : (List Int)))
      else
        bif (a0.Kind == 10) then
          bif (a0.Kind == 10) then
            some (.inr [0])
          else
            bif (a0.Kind == 3) then
              Option.bind (ask_first (minI (maxI a0.Least 0) (a0.Options.length : Int))) fun x55 =>
                some (.inr x55)
            else
              bif (a0.Kind == 4) then
                Option.bind (ask_first (a0.Options.length : Int)) fun x58 =>
                  some (.inr x58)
              else
                bif (a0.Kind == 5) then
                  some (.inr [a0.Least])
                else
                  bif (a0.Kind == 8) then
                    bif decide ((a0.Options.length : Int) > 0) then
                      Option.bind (make? 8 0 (a0.Options.length : Int) (a0.Options.length : Int)) fun x63 =>
                        Option.bind (idx? x63 0) fun x65 =>
                          Option.bind (set? x63 0 a0.N) fun x67 =>
                              some (.inr x67)
                    else
                      some (.inr ([] : (List Int)))
                  else
                    some (.inr ([] : (List Int)))
        else
          bif (a0.Kind == 11) then
            some (.inr [0])
          else
            bif (a0.Kind == 3) then
              Option.bind (ask_first (minI (maxI a0.Least 0) (a0.Options.length : Int))) fun x71 =>
                some (.inr x71)
            else
              bif (a0.Kind == 4) then
                Option.bind (ask_first (a0.Options.length : Int)) fun x74 =>
                  some (.inr x74)
              else
                bif (a0.Kind == 5) then
                  some (.inr [a0.Least])
                else
                  bif (a0.Kind == 8) then
                    bif decide ((a0.Options.length : Int) > 0) then
                      Option.bind (make? 8 0 (a0.Options.length : Int) (a0.Options.length : Int)) fun x79 =>
                        Option.bind (idx? x79 0) fun x81 =>
                          Option.bind (set? x79 0 a0.N) fun x83 =>
                              some (.inr x83)
                    else
                      some (.inr ([] : (List Int)))
                  else
                    some (.inr ([] : (List Int)))
noncomputable def ask_Default (a0 : api_Choice) : Option (List Int) := (ask_Default_0 a0).bind (endO ask_Default_step)
abbrev R36_Default_S := Empty
def R36_Default_step : R36_Default_S → Option (R36_Default_S ⊕ (List Int)) := fun s => nomatch s
def R36_Default_0 (a0 : api_Choice) : Option (R36_Default_S ⊕ (List Int)) :=
  Option.bind (R36_single a0.Kind) fun x1 =>
    bif x1 then
      some (.inr [0])
    else
      bif (a0.Kind == 3) then
        Option.bind (R36_count (minI (maxI a0.Least 0) (a0.Options.length : Int))) fun x5 =>
          some (.inr x5)
      else
        bif (a0.Kind == 4) then
          Option.bind (R36_count (a0.Options.length : Int)) fun x8 =>
            some (.inr x8)
        else
          bif (a0.Kind == 5) then
            some (.inr [a0.Least])
          else
            bif (a0.Kind == 8) then
              Option.bind (make? 8 0 (a0.Options.length : Int) (a0.Options.length : Int)) fun x12 =>
                bif decide ((a0.Options.length : Int) > 0) then
                  Option.bind (idx? x12 0) fun x15 =>
                    Option.bind (set? x12 0 a0.N) fun x17 =>
                        some (.inr x17)
                else
                  some (.inr x12)
            else
              some (.inr ([] : (List Int)))
noncomputable def R36_Default (a0 : api_Choice) : Option (List Int) := (R36_Default_0 a0).bind (endO R36_Default_step)
abbrev ask_Forced_S := Empty
def ask_Forced_step : ask_Forced_S → Option (ask_Forced_S ⊕ Bool) := fun s => nomatch s
def ask_Forced_0 (a0 : api_Choice) : Option (ask_Forced_S ⊕ Bool) :=
  bif (a0.Kind == 1) then
    bif (a0.Kind == 1) then
      some (.inr (decide ((a0.Options.length : Int) ≤ 1)))
    else
      bif (a0.Kind == 6) then
        bif (a0.Kind == 6) then
          some (.inr ((a0.Options.length : Int) == 0))
        else
          bif (a0.Kind == 3) then
            bif (a0.Least == a0.Most) then
              bif (a0.Least == 0) then
                some (.inr true)
              else
                some (.inr (a0.Least == (a0.Options.length : Int)))
            else
              some (.inr false)
          else
            bif (a0.Kind == 5) then
              some (.inr (a0.Least == a0.Most))
            else
              some (.inr true)
      else
        bif (a0.Kind == 7) then
          some (.inr ((a0.Options.length : Int) == 0))
        else
          bif (a0.Kind == 3) then
            bif (a0.Least == a0.Most) then
              bif (a0.Least == 0) then
                some (.inr true)
              else
                some (.inr (a0.Least == (a0.Options.length : Int)))
            else
              some (.inr false)
          else
            bif (a0.Kind == 5) then
              some (.inr (a0.Least == a0.Most))
            else
              some (.inr true)
  else
    bif (a0.Kind == 2) then
      bif (a0.Kind == 2) then
        some (.inr (decide ((a0.Options.length : Int) ≤ 1)))
      else
        bif (a0.Kind == 6) then
          bif (a0.Kind == 6) then
            some (.inr ((a0.Options.length : Int) == 0))
          else
            bif (a0.Kind == 3) then
              bif (a0.Least == a0.Most) then
                bif (a0.Least == 0) then
                  some (.inr true)
                else
                  some (.inr (a0.Least == (a0.Options.length : Int)))
              else
                some (.inr false)
            else
              bif (a0.Kind == 5) then
                some (.inr (a0.Least == a0.Most))
              else
                some (.inr true)
        else
          bif (a0.Kind == 7) then
            some (.inr ((a0.Options.length : Int) == 0))
          else
            bif (a0.Kind == 3) then
              bif (a0.Least == a0.Most) then
                bif (a0.Least == 0) then
                  some (.inr true)
                else
                  some (.inr (a0.Least == (a0.Options.length : Int)))
              else
                some (.inr false)
            else
              bif (a0.Kind == 5) then
                some (.inr (a0.Least == a0.Most))
              else
                some (.inr true)
    else
      bif (a0.Kind == 9) then
        bif (a0.Kind == 9) then
          some (.inr (decide ((a0.Options.length : Int) ≤ 1)))
        else
          bif (a0.Kind == 6) then
            bif (a0.Kind == 6) then
              some (.inr ((a0.Options.length : Int) == 0))
            else
              bif (a0.Kind == 3) then
                bif (a0.Least == a0.Most) then
                  bif (a0.Least == 0) then
                    some (.inr true)
                  else
                    some (.inr (a0.Least == (a0.Options.length : Int)))
                else
                  some (.inr false)
              else
                bif (a0.Kind == 5) then
                  some (.inr (a0.Least == a0.Most))
                else
                  some (.inr true)
          else
            bif (a0.Kind == 7) then
              some (.inr ((a0.Options.length : Int) == 0))
            else
              bif (a0.Kind == 3) then
                bif (a0.Least == a0.Most) then
                  bif (a0.Least == 0) then
                    some (.inr true)
                  else
                    some (.inr (a0.Least == (a0.Options.length : Int)))
                else
                  some (.inr false)
              else
                bif (a0.Kind == 5) then
                  some (.inr (a0.Least == a0.Most))
                else
                  some (.inr true)
      else
        bif (a0.Kind == 10) then
          bif (a0.Kind == 10) then
            some (.inr (decide ((a0.Options.length : Int) ≤ 1)))
          else
            bif (a0.Kind == 6) then
              bif (a0.Kind == 6) then
                some (.inr ((a0.Options.length : Int) == 0))
              else
                bif (a0.Kind == 3) then
                  bif (a0.Least == a0.Most) then
                    bif (a0.Least == 0) then
                      some (.inr true)
                    else
                      some (.inr (a0.Least == (a0.Options.length : Int)))
                  else
                    some (.inr false)
                else
                  bif (a0.Kind == 5) then
                    some (.inr (a0.Least == a0.Most))
                  else
                    some (.inr true)
            else
              bif (a0.Kind == 7) then
                some (.inr ((a0.Options.length : Int) == 0))
              else
                bif (a0.Kind == 3) then
                  bif (a0.Least == a0.Most) then
                    bif (a0.Least == 0) then
                      some (.inr true)
                    else
                      some (.inr (a0.Least == (a0.Options.length : Int)))
                  else
                    some (.inr false)
                else
                  bif (a0.Kind == 5) then
                    some (.inr (a0.Least == a0.Most))
                  else
                    some (.inr true)
        else
          bif (a0.Kind == 11) then
            bif (a0.Kind == 11) then
              some (.inr (decide ((a0.Options.length : Int) ≤ 1)))
            else
              bif (a0.Kind == 6) then
                bif (a0.Kind == 6) then
                  some (.inr ((a0.Options.length : Int) == 0))
                else
                  bif (a0.Kind == 3) then
                    bif (a0.Least == a0.Most) then
                      bif (a0.Least == 0) then
                        some (.inr true)
                      else
                        some (.inr (a0.Least == (a0.Options.length : Int)))
                    else
                      some (.inr false)
                  else
                    bif (a0.Kind == 5) then
                      some (.inr (a0.Least == a0.Most))
                    else
                      some (.inr true)
              else
                bif (a0.Kind == 7) then
                  some (.inr ((a0.Options.length : Int) == 0))
                else
                  bif (a0.Kind == 3) then
                    bif (a0.Least == a0.Most) then
                      bif (a0.Least == 0) then
                        some (.inr true)
                      else
                        some (.inr (a0.Least == (a0.Options.length : Int)))
                    else
                      some (.inr false)
                  else
                    bif (a0.Kind == 5) then
                      some (.inr (a0.Least == a0.Most))
                    else
                      some (.inr true)
          else
            bif (a0.Kind == 4) then
              bif (a0.Kind == 4) then
                some (.inr (decide ((a0.Options.length : Int) ≤ 1)))
              else
                bif (a0.Kind == 6) then
                  bif (a0.Kind == 6) then
                    some (.inr ((a0.Options.length : Int) == 0))
                  else
                    bif (a0.Kind == 3) then
                      bif (a0.Least == a0.Most) then
                        bif (a0.Least == 0) then
                          some (.inr true)
                        else
                          some (.inr (a0.Least == (a0.Options.length : Int)))
                      else
                        some (.inr false)
                    else
                      bif (a0.Kind == 5) then
                        some (.inr (a0.Least == a0.Most))
                      else
                        some (.inr true)
                else
                  bif (a0.Kind == 7) then
                    some (.inr ((a0.Options.length : Int) == 0))
                  else
                    bif (a0.Kind == 3) then
                      bif (a0.Least == a0.Most) then
                        bif (a0.Least == 0) then
                          some (.inr true)
                        else
                          some (.inr (a0.Least == (a0.Options.length : Int)))
                      else
                        some (.inr false)
                    else
                      bif (a0.Kind == 5) then
                        some (.inr (a0.Least == a0.Most))
                      else
                        some (.inr true)
            else
              bif (a0.Kind == 8) then
                some (.inr (decide ((a0.Options.length : Int) ≤ 1)))
              else
                bif (a0.Kind == 6) then
                  bif (a0.Kind == 6) then
                    some (.inr ((a0.Options.length : Int) == 0))
                  else
                    bif (a0.Kind == 3) then
                      bif (a0.Least == a0.Most) then
                        bif (a0.Least == 0) then
                          some (.inr true)
                        else
                          some (.inr (a0.Least == (a0.Options.length : Int)))
                      else
                        some (.inr false)
                    else
                      bif (a0.Kind == 5) then
                        some (.inr (a0.Least == a0.Most))
                      else
                        some (.inr true)
                else
                  bif (a0.Kind == 7) then
                    some (.inr ((a0.Options.length : Int) == 0))
                  else
                    bif (a0.Kind == 3) then
                      bif (a0.Least == a0.Most) then
                        bif (a0.Least == 0) then
                          some (.inr true)
                        else
                          some (.inr (a0.Least == (a0.Options.length : Int)))
                      else
                        some (.inr false)
                    else
                      bif (a0.Kind == 5) then
                        some (.inr (a0.Least == a0.Most))
                      else
                        some (.inr true)
noncomputable def ask_Forced (a0 : api_Choice) : Option Bool := (ask_Forced_0 a0).bind (endO ask_Forced_step)
abbrev R36_Forced_S := Empty
def R36_Forced_step : R36_Forced_S → Option (R36_Forced_S ⊕ Bool) := fun s => nomatch s
def R36_Forced_0 (a0 : api_Choice) : Option (R36_Forced_S ⊕ Bool) :=
  Option.bind (R36_single a0.Kind) fun x1 =>
    bif x1 then
      some (.inr (decide ((a0.Options.length : Int) ≤ 1)))
    else
      bif (a0.Kind == 4) then
        some (.inr (decide ((a0.Options.length : Int) ≤ 1)))
      else
        bif (a0.Kind == 8) then
          some (.inr (decide ((a0.Options.length : Int) ≤ 1)))
        else
          bif (a0.Kind == 6) then
            bif (a0.Kind == 6) then
              some (.inr ((a0.Options.length : Int) == 0))
            else
              bif (a0.Kind == 3) then
                bif (a0.Least == a0.Most) then
                  bif (a0.Least == 0) then
                    some (.inr true)
                  else
                    some (.inr (a0.Least == (a0.Options.length : Int)))
                else
                  some (.inr false)
              else
                bif (a0.Kind == 5) then
                  some (.inr (a0.Least == a0.Most))
                else
                  some (.inr true)
          else
            bif (a0.Kind == 7) then
              some (.inr ((a0.Options.length : Int) == 0))
            else
              bif (a0.Kind == 3) then
                bif (a0.Least == a0.Most) then
                  bif (a0.Least == 0) then
                    some (.inr true)
                  else
                    some (.inr (a0.Least == (a0.Options.length : Int)))
                else
                  some (.inr false)
              else
                bif (a0.Kind == 5) then
                  some (.inr (a0.Least == a0.Most))
                else
                  some (.inr true)
noncomputable def R36_Forced (a0 : api_Choice) : Option Bool := (R36_Forced_0 a0).bind (endO R36_Forced_step)
inductive ask_New_S where
  | L0 (b30000000 : ask_Asker) (v8 : (List (List Int))) (v9 : Int) (v10 : Int)
def ask_New_L0 (b30000000 : ask_Asker) (v8 : (List (List Int))) (v9 : Int) (v10 : Int) : Option (ask_New_S ⊕ ask_Asker) :=
  bif decide (v10 < v9) then
    Option.bind (idx? v8 v10) fun x2 =>
        Option.bind (ask_copied_int_ x2) fun x4 =>
          Option.bind (app? 24 b30000000.answers [x4]) fun x6 =>
            some (.inl (.L0 (⟨x6, b30000000.used, b30000000.pending, b30000000.waits, b30000000.bad⟩ : ask_Asker) v8 v9 (IntKind.wrap .i64 (v10 + 1))))
  else
    some (.inr b30000000)
def ask_New_step : ask_New_S → Option (ask_New_S ⊕ ask_Asker)
  | .L0 b30000000 v8 v9 v10 => ask_New_L0 b30000000 v8 v9 v10
def ask_New_0 (a0 : (List (List Int))) : Option (ask_New_S ⊕ ask_Asker) :=
  some (.inl (.L0 (⟨([] : (List (List Int))), 0, (⟨0, 0, 0, 0, 0, 0, ([] : (List api_Option))⟩ : api_Choice), false, false⟩ : ask_Asker) a0 (a0.length : Int) 0))
noncomputable def ask_New (a0 : (List (List Int))) : Option ask_Asker := (ask_New_0 a0).bind (endO ask_New_step)
inductive R36_New_S where
  | L0 (v0 : (List (List Int))) (b30000000 : cardgameref36_Asker) (v4 : Int)
def R36_New_L0 (v0 : (List (List Int))) (b30000000 : cardgameref36_Asker) (v4 : Int) : Option (R36_New_S ⊕ cardgameref36_Asker) :=
  bif decide (v4 < (v0.length : Int)) then
      Option.bind (idx? v0 v4) fun x2 =>
        Option.bind (R36_copied x2) fun x4 =>
          Option.bind (app? 24 b30000000.Answers [x4]) fun x6 =>
            some (.inl (.L0 v0 (⟨x6, b30000000.Choice, b30000000.Waits, b30000000.Wrong, b30000000.N⟩ : cardgameref36_Asker) (IntKind.wrap .i64 (v4 + 1))))
  else
    some (.inr b30000000)
def R36_New_step : R36_New_S → Option (R36_New_S ⊕ cardgameref36_Asker)
  | .L0 v0 b30000000 v4 => R36_New_L0 v0 b30000000 v4
def R36_New_0 (a0 : (List (List Int))) : Option (R36_New_S ⊕ cardgameref36_Asker) :=
  some (.inl (.L0 a0 (⟨([] : (List (List Int))), (⟨0, 0, 0, 0, 0, 0, ([] : (List api_Option))⟩ : api_Choice), false, false, 0⟩ : cardgameref36_Asker) 0))
noncomputable def R36_New (a0 : (List (List Int))) : Option cardgameref36_Asker := (R36_New_0 a0).bind (endO R36_New_step)
inductive R36_SameChoice_S where
  | L0 (b30000000 : api_Choice) (b30000001 : api_Choice) (v5 : Int)
def R36_SameChoice_L0 (b30000000 : api_Choice) (b30000001 : api_Choice) (v5 : Int) : Option (R36_SameChoice_S ⊕ Bool) :=
  bif decide (v5 < (b30000000.Options.length : Int)) then
      Option.bind (idx? b30000000.Options v5) fun x3 =>
        Option.bind (idx? b30000001.Options v5) fun x5 =>
          bif (!(eqTs (c_api_Option x3) (c_api_Option x5))) then
            some (.inr false)
          else
            some (.inl (.L0 b30000000 b30000001 (IntKind.wrap .i64 (v5 + 1))))
  else
    bif (b30000000.Kind == b30000001.Kind) then
      bif (b30000000.Player == b30000001.Player) then
        bif (b30000000.Source == b30000001.Source) then
          bif (b30000000.Least == b30000001.Least) then
            bif (b30000000.Most == b30000001.Most) then
              some (.inr (b30000000.N == b30000001.N))
            else
              some (.inr false)
          else
            some (.inr false)
        else
          some (.inr false)
      else
        some (.inr false)
    else
      some (.inr false)
def R36_SameChoice_step : R36_SameChoice_S → Option (R36_SameChoice_S ⊕ Bool)
  | .L0 b30000000 b30000001 v5 => R36_SameChoice_L0 b30000000 b30000001 v5
def R36_SameChoice_0 (a0 : api_Choice) (a1 : api_Choice) : Option (R36_SameChoice_S ⊕ Bool) :=
  bif ((a0.Options.length : Int) != (a1.Options.length : Int)) then
    some (.inr false)
  else
    some (.inl (.L0 a0 a1 0))
noncomputable def R36_SameChoice (a0 : api_Choice) (a1 : api_Choice) : Option Bool := (R36_SameChoice_0 a0 a1).bind (endO R36_SameChoice_step)
abbrev L36_one_S := Empty
def L36_one_step : L36_one_S → Option (L36_one_S ⊕ api_Choice) := fun s => nomatch s
def L36_one_0 : Option (L36_one_S ⊕ api_Choice) :=
  some (.inr (⟨2, 0, 0, 0, 0, 0, [(⟨5, 1, 0⟩ : api_Option), (⟨5, 2, 0⟩ : api_Option), (⟨5, 3, 0⟩ : api_Option)]⟩ : api_Choice))
noncomputable def L36_one : Option api_Choice := (L36_one_0).bind (endO L36_one_step)
inductive L36_light_S where
  | L0 (v0 : (List api_Choice)) (v1 : (List (List Int))) (v5 : Int) (v10 : (List api_Choice)) (v11 : Int) (v12 : Int)
  | L1 (v0 : (List api_Choice)) (v1 : (List (List Int))) (v5 : Int) (v22 : (List (List Int))) (v23 : Int) (v24 : Int)
def L36_light_L0 (v0 : (List api_Choice)) (v1 : (List (List Int))) (v5 : Int) (v10 : (List api_Choice)) (v11 : Int) (v12 : Int) : Option (L36_light_S ⊕ Bool) :=
  bif decide (v12 < v11) then
    Option.bind (idx? v10 v12) fun x2 =>
      some (.inl (.L0 v0 v1 (IntKind.wrap .i64 (v5 + (x2.Options.length : Int))) v10 v11 (IntKind.wrap .i64 (v12 + 1))))
  else
    some (.inl (.L1 v0 v1 v5 v1 (v1.length : Int) 0))
def L36_light_L1 (v0 : (List api_Choice)) (v1 : (List (List Int))) (v5 : Int) (v22 : (List (List Int))) (v23 : Int) (v24 : Int) : Option (L36_light_S ⊕ Bool) :=
  bif decide (v24 < v23) then
    Option.bind (idx? v22 v24) fun x5 =>
      some (.inl (.L1 v0 v1 (IntKind.wrap .i64 (v5 + (x5.length : Int))) v22 v23 (IntKind.wrap .i64 (v24 + 1))))
  else
    bif decide ((v0.length : Int) ≤ 50) then
      bif decide ((v1.length : Int) ≤ 50) then
        some (.inr (decide (v5 ≤ 600)))
      else
        some (.inr false)
    else
      some (.inr false)
def L36_light_step : L36_light_S → Option (L36_light_S ⊕ Bool)
  | .L0 v0 v1 v5 v10 v11 v12 => L36_light_L0 v0 v1 v5 v10 v11 v12
  | .L1 v0 v1 v5 v22 v23 v24 => L36_light_L1 v0 v1 v5 v22 v23 v24
def L36_light_0 (a0 : (List api_Choice)) (a1 : (List (List Int))) : Option (L36_light_S ⊕ Bool) :=
  some (.inl (.L0 a0 a1 0 a0 (a0.length : Int) 0))
noncomputable def L36_light (a0 : (List api_Choice)) (a1 : (List (List Int))) : Option Bool := (L36_light_0 a0 a1).bind (endO L36_light_step)
abbrev __ask_Asker__Pick__box_S := Empty
def __ask_Asker__Pick__box_step : __ask_Asker__Pick__box_S → Option (__ask_Asker__Pick__box_S ⊕ ((List Int) × ask_Asker)) := fun s => nomatch s
def __ask_Asker__Pick__box_0 (b0 : ask_Asker) (a1 : api_Choice) : Option (__ask_Asker__Pick__box_S ⊕ ((List Int) × ask_Asker)) :=
  bif b0.waits then
    Option.bind (ask_Default a1) fun x2 =>
      some (.inr (x2, b0))
  else
    bif b0.bad then
      Option.bind (ask_Default a1) fun x5 =>
        some (.inr (x5, b0))
    else
      Option.bind (ask_Forced a1) fun x7 =>
        bif x7 then
          Option.bind (ask_Default a1) fun x10 =>
            some (.inr (x10, b0))
        else
            bif (b0.used == (b0.answers.length : Int)) then
              Option.bind (ask_copied_api_Option_ a1.Options) fun x13 =>
                Option.bind (ask_Default (⟨a1.Kind, a1.Player, a1.Source, a1.Least, a1.Most, a1.N, x13⟩ : api_Choice)) fun x15 =>
                  some (.inr (x15, (⟨b0.answers, b0.used, (⟨a1.Kind, a1.Player, a1.Source, a1.Least, a1.Most, a1.N, x13⟩ : api_Choice), true, b0.bad⟩ : ask_Asker)))
            else
                Option.bind (idx? b0.answers b0.used) fun x17 =>
                  Option.bind (ask_Valid a1 x17) fun x19 =>
                    bif (!x19) then
                      Option.bind (ask_Default a1) fun x22 =>
                        some (.inr (x22, (⟨b0.answers, IntKind.wrap .i64 (b0.used + 1), b0.pending, b0.waits, true⟩ : ask_Asker)))
                    else
                      Option.bind (ask_copied_int_ x17) fun x24 =>
                        some (.inr (x24, (⟨b0.answers, IntKind.wrap .i64 (b0.used + 1), b0.pending, b0.waits, b0.bad⟩ : ask_Asker)))
noncomputable def __ask_Asker__Pick__box (b0 : ask_Asker) (a1 : api_Choice) : Option ((List Int) × ask_Asker) := (__ask_Asker__Pick__box_0 b0 a1).bind (endO __ask_Asker__Pick__box_step)
abbrev __ask_Asker__Pending__box_S := Empty
def __ask_Asker__Pending__box_step : __ask_Asker__Pending__box_S → Option (__ask_Asker__Pending__box_S ⊕ (api_Choice × Bool)) := fun s => nomatch s
def __ask_Asker__Pending__box_0 (b0 : ask_Asker) : Option (__ask_Asker__Pending__box_S ⊕ (api_Choice × Bool)) :=
  bif (!b0.waits) then
    some (.inr ((⟨0, 0, 0, 0, 0, 0, ([] : (List api_Option))⟩ : api_Choice), false))
  else
    Option.bind (ask_copied_api_Option_ b0.pending.Options) fun x2 =>
      some (.inr ((⟨b0.pending.Kind, b0.pending.Player, b0.pending.Source, b0.pending.Least, b0.pending.Most, b0.pending.N, x2⟩ : api_Choice), true))
noncomputable def __ask_Asker__Pending__box (b0 : ask_Asker) : Option (api_Choice × Bool) := (__ask_Asker__Pending__box_0 b0).bind (endO __ask_Asker__Pending__box_step)
abbrev __ask_Asker__Used__box_S := Empty
def __ask_Asker__Used__box_step : __ask_Asker__Used__box_S → Option (__ask_Asker__Used__box_S ⊕ Int) := fun s => nomatch s
def __ask_Asker__Used__box_0 (b0 : ask_Asker) : Option (__ask_Asker__Used__box_S ⊕ Int) :=
  some (.inr b0.used)
noncomputable def __ask_Asker__Used__box (b0 : ask_Asker) : Option Int := (__ask_Asker__Used__box_0 b0).bind (endO __ask_Asker__Used__box_step)
abbrev __ask_Asker__Bad__box_S := Empty
def __ask_Asker__Bad__box_step : __ask_Asker__Bad__box_S → Option (__ask_Asker__Bad__box_S ⊕ Bool) := fun s => nomatch s
def __ask_Asker__Bad__box_0 (b0 : ask_Asker) : Option (__ask_Asker__Bad__box_S ⊕ Bool) :=
  some (.inr b0.bad)
noncomputable def __ask_Asker__Bad__box (b0 : ask_Asker) : Option Bool := (__ask_Asker__Bad__box_0 b0).bind (endO __ask_Asker__Bad__box_step)
abbrev L36_alive_S := Empty
def L36_alive_step : L36_alive_S → Option (L36_alive_S ⊕ Bool) := fun s => nomatch s
def L36_alive_0 : Option (L36_alive_S ⊕ Bool) :=
  Option.bind (ask_New ([] : (List (List Int)))) fun x1 =>
    Option.bind (L36_one) fun x3 =>
      Option.bind (__ask_Asker__Pick__box x1 x3) fun x5 =>
        Option.bind (__ask_Asker__Pending__box x5.2) fun x7 =>
          Option.bind (ask_New [[2], [3]]) fun x9 =>
            Option.bind (L36_one) fun x11 =>
              Option.bind (__ask_Asker__Pick__box x9 x11) fun x13 =>
                Option.bind (L36_one) fun x15 =>
                  Option.bind (__ask_Asker__Pick__box x13.2 x15) fun x17 =>
                      Option.bind (R36_Ints x5.1 [0]) fun x19 =>
                        bif x19 then
                          bif x7.2 then
                            Option.bind (L36_one) fun x23 =>
                              Option.bind (R36_SameChoice x7.1 x23) fun x25 =>
                                bif x25 then
                                  Option.bind (__ask_Asker__Used__box x5.2) fun x28 =>
                                    bif (x28 == 0) then
                                      Option.bind (R36_Ints x13.1 [2]) fun x31 =>
                                        bif x31 then
                                          Option.bind (R36_Ints x17.1 [0]) fun x34 =>
                                            bif x34 then
                                              Option.bind (__ask_Asker__Bad__box x17.2) fun x37 =>
                                                bif x37 then
                                                  Option.bind (__ask_Asker__Used__box x17.2) fun x40 =>
                                                    some (.inr (x40 == 2))
                                                else
                                                  some (.inr false)
                                            else
                                              some (.inr false)
                                        else
                                          some (.inr false)
                                    else
                                      some (.inr false)
                                else
                                  some (.inr false)
                          else
                            some (.inr false)
                        else
                          some (.inr false)
noncomputable def L36_alive : Option Bool := (L36_alive_0).bind (endO L36_alive_step)
abbrev L36_AskValid_S := Empty
def L36_AskValid_step : L36_AskValid_S → Option (L36_AskValid_S ⊕ Bool) := fun s => nomatch s
def L36_AskValid_0 (a0 : api_Choice) (a1 : (List Int)) : Option (L36_AskValid_S ⊕ Bool) :=
  Option.bind (L36_light [a0] [a1]) fun x1 =>
    bif (!x1) then
      Option.bind (L36_alive) fun x4 =>
        some (.inr x4)
    else
        Option.bind (ask_Valid a0 a1) fun x6 =>
          Option.bind (R36_Valid a0 a1) fun x8 =>
            bif (x6 == x8) then
              Option.bind (ask_Default a0) fun x11 =>
                Option.bind (R36_Default a0) fun x13 =>
                  Option.bind (R36_Ints x11 x13) fun x15 =>
                    bif x15 then
                      Option.bind (ask_Forced a0) fun x18 =>
                        Option.bind (R36_Forced a0) fun x20 =>
                          bif (x18 == x20) then
                            Option.bind (L36_alive) fun x23 =>
                              some (.inr x23)
                          else
                            some (.inr false)
                    else
                      some (.inr false)
            else
              some (.inr false)
noncomputable def L36_AskValid (a0 : api_Choice) (a1 : (List Int)) : Option Bool := (L36_AskValid_0 a0 a1).bind (endO L36_AskValid_step)
abbrev __R36_Asker__Pick__box_S := Empty
def __R36_Asker__Pick__box_step : __R36_Asker__Pick__box_S → Option (__R36_Asker__Pick__box_S ⊕ ((List Int) × cardgameref36_Asker)) := fun s => nomatch s
def __R36_Asker__Pick__box_0 (b0 : cardgameref36_Asker) (a1 : api_Choice) : Option (__R36_Asker__Pick__box_S ⊕ ((List Int) × cardgameref36_Asker)) :=
  Option.bind (R36_Forced a1) fun x1 =>
    bif x1 then
      Option.bind (R36_Default a1) fun x4 =>
        some (.inr (x4, b0))
    else
      bif b0.Waits then
        Option.bind (R36_Default a1) fun x7 =>
          some (.inr (x7, b0))
      else
        bif b0.Wrong then
          Option.bind (R36_Default a1) fun x10 =>
            some (.inr (x10, b0))
        else
            bif decide (b0.N ≥ (b0.Answers.length : Int)) then
              Option.bind (R36_Copy a1) fun x13 =>
                Option.bind (R36_Default a1) fun x15 =>
                  some (.inr (x15, (⟨b0.Answers, x13, true, b0.Wrong, b0.N⟩ : cardgameref36_Asker)))
            else
                Option.bind (idx? b0.Answers b0.N) fun x17 =>
                  Option.bind (R36_Valid a1 x17) fun x19 =>
                    bif (!x19) then
                      Option.bind (R36_Default a1) fun x22 =>
                        some (.inr (x22, (⟨b0.Answers, b0.Choice, b0.Waits, true, IntKind.wrap .i64 (b0.N + 1)⟩ : cardgameref36_Asker)))
                    else
                      Option.bind (R36_copied x17) fun x24 =>
                        some (.inr (x24, (⟨b0.Answers, b0.Choice, b0.Waits, b0.Wrong, IntKind.wrap .i64 (b0.N + 1)⟩ : cardgameref36_Asker)))
noncomputable def __R36_Asker__Pick__box (b0 : cardgameref36_Asker) (a1 : api_Choice) : Option ((List Int) × cardgameref36_Asker) := (__R36_Asker__Pick__box_0 b0 a1).bind (endO __R36_Asker__Pick__box_step)
abbrev __R36_Asker__Pending__box_S := Empty
def __R36_Asker__Pending__box_step : __R36_Asker__Pending__box_S → Option (__R36_Asker__Pending__box_S ⊕ (api_Choice × Bool)) := fun s => nomatch s
def __R36_Asker__Pending__box_0 (b0 : cardgameref36_Asker) : Option (__R36_Asker__Pending__box_S ⊕ (api_Choice × Bool)) :=
  bif (!b0.Waits) then
    some (.inr ((⟨0, 0, 0, 0, 0, 0, ([] : (List api_Option))⟩ : api_Choice), false))
  else
    Option.bind (R36_Copy b0.Choice) fun x2 =>
      some (.inr (x2, true))
noncomputable def __R36_Asker__Pending__box (b0 : cardgameref36_Asker) : Option (api_Choice × Bool) := (__R36_Asker__Pending__box_0 b0).bind (endO __R36_Asker__Pending__box_step)
abbrev __R36_Asker__Bad__box_S := Empty
def __R36_Asker__Bad__box_step : __R36_Asker__Bad__box_S → Option (__R36_Asker__Bad__box_S ⊕ Bool) := fun s => nomatch s
def __R36_Asker__Bad__box_0 (b0 : cardgameref36_Asker) : Option (__R36_Asker__Bad__box_S ⊕ Bool) :=
  some (.inr b0.Wrong)
noncomputable def __R36_Asker__Bad__box (b0 : cardgameref36_Asker) : Option Bool := (__R36_Asker__Bad__box_0 b0).bind (endO __R36_Asker__Bad__box_step)
abbrev __R36_Asker__Used__box_S := Empty
def __R36_Asker__Used__box_step : __R36_Asker__Used__box_S → Option (__R36_Asker__Used__box_S ⊕ Int) := fun s => nomatch s
def __R36_Asker__Used__box_0 (b0 : cardgameref36_Asker) : Option (__R36_Asker__Used__box_S ⊕ Int) :=
  some (.inr b0.N)
noncomputable def __R36_Asker__Used__box (b0 : cardgameref36_Asker) : Option Int := (__R36_Asker__Used__box_0 b0).bind (endO __R36_Asker__Used__box_step)
inductive L36_AskPicks_S where
  | L0 (b30000000 : ask_Asker) (b30000001 : cardgameref36_Asker) (v22 : (List api_Choice)) (v23 : Int) (v24 : Int)
def L36_AskPicks_L0 (b30000000 : ask_Asker) (b30000001 : cardgameref36_Asker) (v22 : (List api_Choice)) (v23 : Int) (v24 : Int) : Option (L36_AskPicks_S ⊕ Bool) :=
  bif decide (v24 < v23) then
    Option.bind (idx? v22 v24) fun x11 =>
        Option.bind (__ask_Asker__Pick__box b30000000 x11) fun x13 =>
          Option.bind (__R36_Asker__Pick__box b30000001 x11) fun x15 =>
            Option.bind (R36_Ints x13.1 x15.1) fun x17 =>
              bif (!x17) then
                some (.inr false)
              else
                Option.bind (__ask_Asker__Pending__box x13.2) fun x20 =>
                  Option.bind (__R36_Asker__Pending__box x15.2) fun x22 =>
                    Option.bind (R36_SameChoice x20.1 x22.1) fun x24 =>
                      bif (!x24) then
                        some (.inr false)
                      else
                        bif (!(x20.2 == x22.2)) then
                          some (.inr false)
                        else
                          Option.bind (__ask_Asker__Bad__box x13.2) fun x28 =>
                            Option.bind (__R36_Asker__Bad__box x15.2) fun x30 =>
                              bif (!(x28 == x30)) then
                                some (.inr false)
                              else
                                Option.bind (__ask_Asker__Used__box x13.2) fun x33 =>
                                  Option.bind (__R36_Asker__Used__box x15.2) fun x35 =>
                                    bif (x33 != x35) then
                                      some (.inr false)
                                    else
                                      some (.inl (.L0 x13.2 x15.2 v22 v23 (IntKind.wrap .i64 (v24 + 1))))
  else
    Option.bind (L36_alive) fun x38 =>
      some (.inr x38)
def L36_AskPicks_step : L36_AskPicks_S → Option (L36_AskPicks_S ⊕ Bool)
  | .L0 b30000000 b30000001 v22 v23 v24 => L36_AskPicks_L0 b30000000 b30000001 v22 v23 v24
def L36_AskPicks_0 (a0 : (List (List Int))) (a1 : (List api_Choice)) : Option (L36_AskPicks_S ⊕ Bool) :=
  Option.bind (L36_light a1 a0) fun x1 =>
    bif (!x1) then
      Option.bind (L36_alive) fun x4 =>
        some (.inr x4)
    else
      Option.bind (ask_New a0) fun x6 =>
        Option.bind (R36_New a0) fun x8 =>
          some (.inl (.L0 x6 x8 a1 (a1.length : Int) 0))
noncomputable def L36_AskPicks (a0 : (List (List Int))) (a1 : (List api_Choice)) : Option Bool := (L36_AskPicks_0 a0 a1).bind (endO L36_AskPicks_step)
abbrev __ask_Asker__Pending__nilp_S := Empty
def __ask_Asker__Pending__nilp_step : __ask_Asker__Pending__nilp_S → Option (__ask_Asker__Pending__nilp_S ⊕ (api_Choice × Bool)) := fun s => nomatch s
def __ask_Asker__Pending__nilp_0 : Option (__ask_Asker__Pending__nilp_S ⊕ (api_Choice × Bool)) :=
  some (.inr ((⟨0, 0, 0, 0, 0, 0, ([] : (List api_Option))⟩ : api_Choice), false))
noncomputable def __ask_Asker__Pending__nilp : Option (api_Choice × Bool) := (__ask_Asker__Pending__nilp_0).bind (endO __ask_Asker__Pending__nilp_step)
abbrev __ask_Asker__Pick__nilp_S := Empty
def __ask_Asker__Pick__nilp_step : __ask_Asker__Pick__nilp_S → Option (__ask_Asker__Pick__nilp_S ⊕ (List Int)) := fun s => nomatch s
def __ask_Asker__Pick__nilp_0 (a1 : api_Choice) : Option (__ask_Asker__Pick__nilp_S ⊕ (List Int)) :=
  Option.bind (ask_Default a1) fun x1 =>
    some (.inr x1)
noncomputable def __ask_Asker__Pick__nilp (a1 : api_Choice) : Option (List Int) := (__ask_Asker__Pick__nilp_0 a1).bind (endO __ask_Asker__Pick__nilp_step)
abbrev __ask_Asker__Bad__nilp_S := Empty
def __ask_Asker__Bad__nilp_step : __ask_Asker__Bad__nilp_S → Option (__ask_Asker__Bad__nilp_S ⊕ Bool) := fun s => nomatch s
def __ask_Asker__Bad__nilp_0 : Option (__ask_Asker__Bad__nilp_S ⊕ Bool) :=
  some (.inr false)
noncomputable def __ask_Asker__Bad__nilp : Option Bool := (__ask_Asker__Bad__nilp_0).bind (endO __ask_Asker__Bad__nilp_step)
abbrev __ask_Asker__Used__nilp_S := Empty
def __ask_Asker__Used__nilp_step : __ask_Asker__Used__nilp_S → Option (__ask_Asker__Used__nilp_S ⊕ Int) := fun s => nomatch s
def __ask_Asker__Used__nilp_0 : Option (__ask_Asker__Used__nilp_S ⊕ Int) :=
  some (.inr 0)
noncomputable def __ask_Asker__Used__nilp : Option Int := (__ask_Asker__Used__nilp_0).bind (endO __ask_Asker__Used__nilp_step)
abbrev L36_AskNil_S := Empty
def L36_AskNil_step : L36_AskNil_S → Option (L36_AskNil_S ⊕ Bool) := fun s => nomatch s
def L36_AskNil_0 (a0 : api_Choice) : Option (L36_AskNil_S ⊕ Bool) :=
  Option.bind (L36_light [a0] ([] : (List (List Int)))) fun x1 =>
    bif (!x1) then
      Option.bind (L36_alive) fun x4 =>
        some (.inr x4)
    else
      Option.bind (__ask_Asker__Pending__nilp) fun x6 =>
          Option.bind (__ask_Asker__Pick__nilp a0) fun x8 =>
            Option.bind (R36_Default a0) fun x10 =>
              Option.bind (R36_Ints x8 x10) fun x12 =>
                bif x12 then
                  bif (!x6.2) then
                    Option.bind (R36_SameChoice x6.1 (⟨0, 0, 0, 0, 0, 0, ([] : (List api_Option))⟩ : api_Choice)) fun x16 =>
                      bif x16 then
                        Option.bind (__ask_Asker__Bad__nilp) fun x19 =>
                          bif (!x19) then
                            Option.bind (__ask_Asker__Used__nilp) fun x22 =>
                              bif (x22 == 0) then
                                Option.bind (L36_alive) fun x25 =>
                                  some (.inr x25)
                              else
                                some (.inr false)
                          else
                            some (.inr false)
                      else
                        some (.inr false)
                  else
                    some (.inr false)
                else
                  some (.inr false)
noncomputable def L36_AskNil (a0 : api_Choice) : Option Bool := (L36_AskNil_0 a0).bind (endO L36_AskNil_step)
abbrev L36_AskDefaults_S := Empty
def L36_AskDefaults_step : L36_AskDefaults_S → Option (L36_AskDefaults_S ⊕ Bool) := fun s => nomatch s
def L36_AskDefaults_0 (a0 : api_Choice) (a1 : (List Int)) : Option (L36_AskDefaults_S ⊕ Bool) :=
  Option.bind (L36_light [a0] [a1]) fun x1 =>
    bif (!x1) then
      Option.bind (L36_alive) fun x4 =>
        some (.inr x4)
    else
      Option.bind (ask_Forced a0) fun x6 =>
        bif x6 then
          Option.bind (L36_alive) fun x9 =>
            some (.inr x9)
        else
          Option.bind (ask_Valid a0 a1) fun x11 =>
            bif (!x11) then
              Option.bind (L36_alive) fun x14 =>
                some (.inr x14)
            else
              bif (a0.Kind == 8) then
                bif decide (a0.N > 1000000) then
                  Option.bind (L36_alive) fun x18 =>
                    some (.inr x18)
                else
                    Option.bind (ask_Default a0) fun x20 =>
                      Option.bind (ask_Valid a0 x20) fun x22 =>
                        bif x22 then
                          Option.bind (L36_alive) fun x25 =>
                            some (.inr x25)
                        else
                          some (.inr false)
              else
                  Option.bind (ask_Default a0) fun x27 =>
                    Option.bind (ask_Valid a0 x27) fun x29 =>
                      bif x29 then
                        Option.bind (L36_alive) fun x32 =>
                          some (.inr x32)
                      else
                        some (.inr false)
noncomputable def L36_AskDefaults (a0 : api_Choice) (a1 : (List Int)) : Option Bool := (L36_AskDefaults_0 a0 a1).bind (endO L36_AskDefaults_step)
inductive L36_AskStops_S where
  | L0 (v0 : (List (List Int))) (b30000000 : ask_Asker) (v22 : (List api_Choice)) (v23 : Int) (v24 : Int)
def L36_AskStops_L0 (v0 : (List (List Int))) (b30000000 : ask_Asker) (v22 : (List api_Choice)) (v23 : Int) (v24 : Int) : Option (L36_AskStops_S ⊕ Bool) :=
  bif decide (v24 < v23) then
    Option.bind (idx? v22 v24) fun x9 =>
      Option.bind (__ask_Asker__Used__box b30000000) fun x11 =>
        Option.bind (__ask_Asker__Pending__box b30000000) fun x13 =>
          bif x13.2 then
            Option.bind (__ask_Asker__Pick__box b30000000 x9) fun x16 =>
              Option.bind (__ask_Asker__Used__box x16.2) fun x18 =>
                bif (x18 != x11) then
                  some (.inr false)
                else
                  Option.bind (ask_Default x9) fun x21 =>
                    Option.bind (R36_Ints x16.1 x21) fun x23 =>
                      bif (!x23) then
                        some (.inr false)
                      else
                        Option.bind (__ask_Asker__Used__box x16.2) fun x26 =>
                          bif decide (x26 > (IntKind.wrap .i64 (x11 + 1))) then
                            some (.inr false)
                          else
                            Option.bind (__ask_Asker__Used__box x16.2) fun x29 =>
                              bif decide (x29 < x11) then
                                some (.inr false)
                              else
                                Option.bind (__ask_Asker__Used__box x16.2) fun x32 =>
                                  bif decide (x32 > (v0.length : Int)) then
                                    some (.inr false)
                                  else
                                    some (.inl (.L0 v0 x16.2 v22 v23 (IntKind.wrap .i64 (v24 + 1))))
          else
            Option.bind (__ask_Asker__Bad__box b30000000) fun x35 =>
              Option.bind (__ask_Asker__Pick__box b30000000 x9) fun x37 =>
                bif x35 then
                  Option.bind (__ask_Asker__Used__box x37.2) fun x40 =>
                    bif (x40 != x11) then
                      some (.inr false)
                    else
                      Option.bind (ask_Default x9) fun x43 =>
                        Option.bind (R36_Ints x37.1 x43) fun x45 =>
                          bif (!x45) then
                            some (.inr false)
                          else
                            Option.bind (__ask_Asker__Used__box x37.2) fun x48 =>
                              bif decide (x48 > (IntKind.wrap .i64 (x11 + 1))) then
                                some (.inr false)
                              else
                                Option.bind (__ask_Asker__Used__box x37.2) fun x51 =>
                                  bif decide (x51 < x11) then
                                    some (.inr false)
                                  else
                                    Option.bind (__ask_Asker__Used__box x37.2) fun x54 =>
                                      bif decide (x54 > (v0.length : Int)) then
                                        some (.inr false)
                                      else
                                        some (.inl (.L0 v0 x37.2 v22 v23 (IntKind.wrap .i64 (v24 + 1))))
                else
                  Option.bind (__ask_Asker__Used__box x37.2) fun x57 =>
                    bif decide (x57 > (IntKind.wrap .i64 (x11 + 1))) then
                      some (.inr false)
                    else
                      Option.bind (__ask_Asker__Used__box x37.2) fun x60 =>
                        bif decide (x60 < x11) then
                          some (.inr false)
                        else
                          Option.bind (__ask_Asker__Used__box x37.2) fun x63 =>
                            bif decide (x63 > (v0.length : Int)) then
                              some (.inr false)
                            else
                              some (.inl (.L0 v0 x37.2 v22 v23 (IntKind.wrap .i64 (v24 + 1))))
  else
    Option.bind (__ask_Asker__Pending__box b30000000) fun x66 =>
      bif x66.2 then
        Option.bind (__ask_Asker__Bad__box b30000000) fun x69 =>
          bif (!x69) then
            Option.bind (L36_alive) fun x72 =>
              some (.inr x72)
          else
            some (.inr false)
      else
        bif (!false) then
          Option.bind (L36_alive) fun x75 =>
            some (.inr x75)
        else
          some (.inr false)
def L36_AskStops_step : L36_AskStops_S → Option (L36_AskStops_S ⊕ Bool)
  | .L0 v0 b30000000 v22 v23 v24 => L36_AskStops_L0 v0 b30000000 v22 v23 v24
def L36_AskStops_0 (a0 : (List (List Int))) (a1 : (List api_Choice)) : Option (L36_AskStops_S ⊕ Bool) :=
  Option.bind (L36_light a1 a0) fun x1 =>
    bif (!x1) then
      Option.bind (L36_alive) fun x4 =>
        some (.inr x4)
    else
      Option.bind (ask_New a0) fun x6 =>
        some (.inl (.L0 a0 x6 a1 (a1.length : Int) 0))
noncomputable def L36_AskStops (a0 : (List (List Int))) (a1 : (List api_Choice)) : Option Bool := (L36_AskStops_0 a0 a1).bind (endO L36_AskStops_step)
end
end Go.PW
