import Derived.Test.YthcjjlopamfpfaaPwR
namespace Go.PW
noncomputable section
inductive R05_Same_S where
  | L0 (v0 : (List Int)) (v1 : (List Int)) (v5 : Int)
def R05_Same_L0 (v0 : (List Int)) (v1 : (List Int)) (v5 : Int) : Option (R05_Same_S ⊕ Bool) :=
  bif decide (v5 < (v0.length : Int)) then
      Option.bind (idx? v0 v5) fun x3 =>
        Option.bind (idx? v1 v5) fun x5 =>
          bif (x3 != x5) then
            some (.inr false)
          else
            some (.inl (.L0 v0 v1 (IntKind.wrap .i64 (v5 + 1))))
  else
    some (.inr true)
def R05_Same_step : R05_Same_S → Option (R05_Same_S ⊕ Bool)
  | .L0 v0 v1 v5 => R05_Same_L0 v0 v1 v5
def R05_Same_0 (a0 : (List Int)) (a1 : (List Int)) : Option (R05_Same_S ⊕ Bool) :=
  bif ((a0.length : Int) != (a1.length : Int)) then
    some (.inr false)
  else
    some (.inl (.L0 a0 a1 0))
noncomputable def R05_Same (a0 : (List Int)) (a1 : (List Int)) : Option Bool := (R05_Same_0 a0 a1).bind (endO R05_Same_step)
inductive sum_Of_S where
  | L0 (v3 : Int) (v8 : (List Int)) (v9 : Int) (v10 : Int)
  | L1 (v3 : Int) (v5 : Int) (v8 : (List Int)) (v9 : Int) (v10 : Int) (v14 : Int)
def sum_Of_L0 (v3 : Int) (v8 : (List Int)) (v9 : Int) (v10 : Int) : Option (sum_Of_S ⊕ Int) :=
  bif decide (v10 < v9) then
    Option.bind (idx? v8 v10) fun x2 =>
      some (.inl (.L1 v3 x2 v8 v9 v10 0))
  else
    some (.inr (comI .u32 v3))
def sum_Of_L1 (v3 : Int) (v5 : Int) (v8 : (List Int)) (v9 : Int) (v10 : Int) (v14 : Int) : Option (sum_Of_S ⊕ Int) :=
  bif decide (v14 < 8) then
    Option.bind (ok? (decide (¬ v14 < 0))) fun x5 =>
      bif ((bitOp .and .u32 v3 1) != (IntKind.wrap .u32 (bitOp .and .u8 (shrI .u8 v5 v14) 1))) then
        some (.inl (.L1 (bitOp .xor .u32 (shrI .u32 v3 1) 3988292384) v5 v8 v9 v10 (IntKind.wrap .i64 (v14 + 1))))
      else
        some (.inl (.L1 (shrI .u32 v3 1) v5 v8 v9 v10 (IntKind.wrap .i64 (v14 + 1))))
  else
    some (.inl (.L0 v3 v8 v9 (IntKind.wrap .i64 (v10 + 1))))
def sum_Of_step : sum_Of_S → Option (sum_Of_S ⊕ Int)
  | .L0 v3 v8 v9 v10 => sum_Of_L0 v3 v8 v9 v10
  | .L1 v3 v5 v8 v9 v10 v14 => sum_Of_L1 v3 v5 v8 v9 v10 v14
def sum_Of_0 (a0 : (List Int)) : Option (sum_Of_S ⊕ Int) :=
  some (.inl (.L0 4294967295 a0 (a0.length : Int) 0))
noncomputable def sum_Of (a0 : (List Int)) : Option Int := (sum_Of_0 a0).bind (endO sum_Of_step)
inductive R05_Of_S where
  | L0 (v0 : (List Int)) (v3 : Int) (v4 : Int)
  | L1 (v0 : (List Int)) (v3 : Int) (v4 : Int) (v5 : Int) (v6 : Int)
def R05_Of_L0 (v0 : (List Int)) (v3 : Int) (v4 : Int) : Option (R05_Of_S ⊕ Int) :=
  bif decide (v4 < (v0.length : Int)) then
    Option.bind (idx? v0 v4) fun x2 =>
      some (.inl (.L1 v0 v3 v4 (IntKind.wrap .u32 x2) 0))
  else
    some (.inr (IntKind.wrap .u32 (4294967295 - v3)))
def R05_Of_L1 (v0 : (List Int)) (v3 : Int) (v4 : Int) (v5 : Int) (v6 : Int) : Option (R05_Of_S ⊕ Int) :=
  bif decide (v6 < 8) then
    bif ((Int.tmod v3 2) != (Int.tmod v5 2)) then
      some (.inl (.L1 v0 (bitOp .xor .u32 (quoI .u32 v3 2) 3988292384) v4 (quoI .u32 v5 2) (IntKind.wrap .i64 (v6 + 1))))
    else
      some (.inl (.L1 v0 (quoI .u32 v3 2) v4 (quoI .u32 v5 2) (IntKind.wrap .i64 (v6 + 1))))
  else
    some (.inl (.L0 v0 v3 (IntKind.wrap .i64 (v4 + 1))))
def R05_Of_step : R05_Of_S → Option (R05_Of_S ⊕ Int)
  | .L0 v0 v3 v4 => R05_Of_L0 v0 v3 v4
  | .L1 v0 v3 v4 v5 v6 => R05_Of_L1 v0 v3 v4 v5 v6
def R05_Of_0 (a0 : (List Int)) : Option (R05_Of_S ⊕ Int) :=
  some (.inl (.L0 a0 4294967295 0))
noncomputable def R05_Of (a0 : (List Int)) : Option Int := (R05_Of_0 a0).bind (endO R05_Of_step)
inductive sum_Seal_S where
  | L0 (v3 : (List Int)) (v4 : Int) (v5 : Int)
def sum_Seal_L0 (v3 : (List Int)) (v4 : Int) (v5 : Int) : Option (sum_Seal_S ⊕ (List Int)) :=
  bif decide (v4 < 4) then
    Option.bind (ok? (decide (¬ (IntKind.wrap .i64 (8 * v4)) < 0))) fun x8 =>
      Option.bind (app? 1 v3 [IntKind.wrap .u8 (shrI .u32 v5 (IntKind.wrap .i64 (8 * v4)))]) fun x10 =>
        some (.inl (.L0 x10 (IntKind.wrap .i64 (v4 + 1)) v5))
  else
    some (.inr v3)
def sum_Seal_step : sum_Seal_S → Option (sum_Seal_S ⊕ (List Int))
  | .L0 v3 v4 v5 => sum_Seal_L0 v3 v4 v5
def sum_Seal_0 (a0 : (List Int)) : Option (sum_Seal_S ⊕ (List Int)) :=
  Option.bind (make? 1 0 (a0.length : Int) (IntKind.wrap .i64 ((a0.length : Int) + 4))) fun x1 =>
    Option.bind (copy? x1 a0) fun x3 =>
      Option.bind (sum_Of a0) fun x5 =>
        some (.inl (.L0 x3 0 x5))
noncomputable def sum_Seal (a0 : (List Int)) : Option (List Int) := (sum_Seal_0 a0).bind (endO sum_Seal_step)
inductive R05_Seal_S where
  | L0 (v3 : (List Int)) (v4 : Int) (v5 : Int)
def R05_Seal_L0 (v3 : (List Int)) (v4 : Int) (v5 : Int) : Option (R05_Seal_S ⊕ (List Int)) :=
  bif decide (v5 < 4) then
    Option.bind (app? 1 v3 [IntKind.wrap .u8 (Int.tmod v4 256)]) fun x6 =>
      some (.inl (.L0 x6 (quoI .u32 v4 256) (IntKind.wrap .i64 (v5 + 1))))
  else
    some (.inr v3)
def R05_Seal_step : R05_Seal_S → Option (R05_Seal_S ⊕ (List Int))
  | .L0 v3 v4 v5 => R05_Seal_L0 v3 v4 v5
def R05_Seal_0 (a0 : (List Int)) : Option (R05_Seal_S ⊕ (List Int)) :=
  Option.bind (app? 1 [] a0) fun x1 =>
    Option.bind (R05_Of a0) fun x3 =>
      some (.inl (.L0 x1 x3 0))
noncomputable def R05_Seal (a0 : (List Int)) : Option (List Int) := (R05_Seal_0 a0).bind (endO R05_Seal_step)
abbrev slices_Clone___byte_byte__S := Empty
def slices_Clone___byte_byte__step : slices_Clone___byte_byte__S → Option (slices_Clone___byte_byte__S ⊕ (List Int)) := fun s => nomatch s
def slices_Clone___byte_byte__0 (a0 : (List Int)) : Option (slices_Clone___byte_byte__S ⊕ (List Int)) :=
  Option.bind (app? 1 ([] : (List Int)) a0) fun x1 =>
    some (.inr x1)
noncomputable def slices_Clone___byte_byte_ (a0 : (List Int)) : Option (List Int) := (slices_Clone___byte_byte__0 a0).bind (endO slices_Clone___byte_byte__step)
inductive slices_Equal___byte_byte__S where
  | L0 (v0 : (List Int)) (v1 : (List Int)) (v12 : Int) (v13 : Int)
def slices_Equal___byte_byte__L0 (v0 : (List Int)) (v1 : (List Int)) (v12 : Int) (v13 : Int) : Option (slices_Equal___byte_byte__S ⊕ Bool) :=
  bif decide (v13 < v12) then
      Option.bind (idx? v0 v13) fun x3 =>
        Option.bind (idx? v1 v13) fun x5 =>
          bif (x3 != x5) then
            some (.inr false)
          else
            some (.inl (.L0 v0 v1 v12 (IntKind.wrap .i64 (v13 + 1))))
  else
    some (.inr true)
def slices_Equal___byte_byte__step : slices_Equal___byte_byte__S → Option (slices_Equal___byte_byte__S ⊕ Bool)
  | .L0 v0 v1 v12 v13 => slices_Equal___byte_byte__L0 v0 v1 v12 v13
def slices_Equal___byte_byte__0 (a0 : (List Int)) (a1 : (List Int)) : Option (slices_Equal___byte_byte__S ⊕ Bool) :=
  bif ((a0.length : Int) != (a1.length : Int)) then
    some (.inr false)
  else
    some (.inl (.L0 a0 a1 (a0.length : Int) 0))
noncomputable def slices_Equal___byte_byte_ (a0 : (List Int)) (a1 : (List Int)) : Option Bool := (slices_Equal___byte_byte__0 a0 a1).bind (endO slices_Equal___byte_byte__step)
abbrev sum_Open_S := Empty
def sum_Open_step : sum_Open_S → Option (sum_Open_S ⊕ ((List Int) × Int)) := fun s => nomatch s
def sum_Open_0 (a0 : (List Int)) : Option (sum_Open_S ⊕ ((List Int) × Int)) :=
  bif decide ((a0.length : Int) < 4) then
    some (.inr (([] : (List Int)), 4))
  else
    Option.bind (slice? a0 0 (IntKind.wrap .i64 ((a0.length : Int) - 4))) fun x2 =>
      Option.bind (slices_Clone___byte_byte_ x2) fun x4 =>
        Option.bind (sum_Seal x4) fun x6 =>
          Option.bind (slices_Equal___byte_byte_ x6 a0) fun x8 =>
            bif (!x8) then
              some (.inr (([] : (List Int)), 8))
            else
              some (.inr (x4, 0))
noncomputable def sum_Open (a0 : (List Int)) : Option ((List Int) × Int) := (sum_Open_0 a0).bind (endO sum_Open_step)
abbrev R05_Open_S := Empty
def R05_Open_step : R05_Open_S → Option (R05_Open_S ⊕ ((List Int) × Int)) := fun s => nomatch s
def R05_Open_0 (a0 : (List Int)) : Option (R05_Open_S ⊕ ((List Int) × Int)) :=
  bif decide ((a0.length : Int) < 4) then
    some (.inr (([] : (List Int)), 4))
  else
    Option.bind (slice? a0 0 (IntKind.wrap .i64 ((a0.length : Int) - 4))) fun x2 =>
      Option.bind (app? 1 [] x2) fun x4 =>
        Option.bind (R05_Seal x4) fun x6 =>
          Option.bind (R05_Same x6 a0) fun x8 =>
            bif (!x8) then
              some (.inr (([] : (List Int)), 8))
            else
              some (.inr (x4, 0))
noncomputable def R05_Open (a0 : (List Int)) : Option ((List Int) × Int) := (R05_Open_0 a0).bind (endO R05_Open_step)
abbrev L05_alive_S := Empty
def L05_alive_step : L05_alive_S → Option (L05_alive_S ⊕ Bool) := fun s => nomatch s
def L05_alive_0 : Option (L05_alive_S ⊕ Bool) :=
  Option.bind (sum_Seal [49, 50, 51, 52, 53, 54, 55, 56, 57]) fun x1 =>
    Option.bind (sum_Of [49, 50, 51, 52, 53, 54, 55, 56, 57]) fun x3 =>
      bif (x3 == 3421780262) then
        Option.bind (sum_Of ([] : (List Int))) fun x6 =>
          bif (x6 == 0) then
            bif ((x1.length : Int) == 13) then
              Option.bind (idx? x1 9) fun x10 =>
                  bif (x10 == 38) then
                    Option.bind (idx? x1 12) fun x13 =>
                        some (.inr (x13 == 203))
                  else
                    some (.inr false)
            else
              some (.inr false)
          else
            some (.inr false)
      else
        some (.inr false)
noncomputable def L05_alive : Option Bool := (L05_alive_0).bind (endO L05_alive_step)
abbrev L05_SumOf_S := Empty
def L05_SumOf_step : L05_SumOf_S → Option (L05_SumOf_S ⊕ Bool) := fun s => nomatch s
def L05_SumOf_0 (a0 : (List Int)) : Option (L05_SumOf_S ⊕ Bool) :=
  bif decide ((a0.length : Int) > 4000) then
    Option.bind (L05_alive) fun x2 =>
      some (.inr x2)
  else
    Option.bind (sum_Of a0) fun x4 =>
      Option.bind (R05_Of a0) fun x6 =>
        bif (x4 == x6) then
          Option.bind (sum_Seal a0) fun x9 =>
            Option.bind (R05_Seal a0) fun x11 =>
              Option.bind (R05_Same x9 x11) fun x13 =>
                bif x13 then
                  Option.bind (L05_alive) fun x16 =>
                    some (.inr x16)
                else
                  some (.inr false)
        else
          some (.inr false)
noncomputable def L05_SumOf (a0 : (List Int)) : Option Bool := (L05_SumOf_0 a0).bind (endO L05_SumOf_step)
abbrev L05_SumOpens_S := Empty
def L05_SumOpens_step : L05_SumOpens_S → Option (L05_SumOpens_S ⊕ Bool) := fun s => nomatch s
def L05_SumOpens_0 (a0 : (List Int)) : Option (L05_SumOpens_S ⊕ Bool) :=
  bif decide ((a0.length : Int) > 4000) then
    Option.bind (L05_alive) fun x2 =>
      some (.inr x2)
  else
    Option.bind (sum_Open a0) fun x4 =>
      Option.bind (R05_Open a0) fun x6 =>
        bif (x4.2 != x6.2) then
          some (.inr false)
        else
          Option.bind (R05_Same x4.1 x6.1) fun x9 =>
            bif (!x9) then
              some (.inr false)
            else
              bif (x4.2 != 0) then
                Option.bind (L05_alive) fun x13 =>
                  some (.inr x13)
              else
                Option.bind (sum_Seal x4.1) fun x15 =>
                  Option.bind (R05_Same x15 a0) fun x17 =>
                    bif x17 then
                      Option.bind (L05_alive) fun x20 =>
                        some (.inr x20)
                    else
                      some (.inr false)
noncomputable def L05_SumOpens (a0 : (List Int)) : Option Bool := (L05_SumOpens_0 a0).bind (endO L05_SumOpens_step)
abbrev L05_SumBack_S := Empty
def L05_SumBack_step : L05_SumBack_S → Option (L05_SumBack_S ⊕ Bool) := fun s => nomatch s
def L05_SumBack_0 (a0 : (List Int)) : Option (L05_SumBack_S ⊕ Bool) :=
  bif decide ((a0.length : Int) > 4000) then
    Option.bind (L05_alive) fun x2 =>
      some (.inr x2)
  else
    Option.bind (sum_Seal a0) fun x4 =>
      Option.bind (sum_Open x4) fun x6 =>
        bif (x6.2 == 0) then
          Option.bind (R05_Same x6.1 a0) fun x9 =>
            bif x9 then
              Option.bind (L05_alive) fun x12 =>
                some (.inr x12)
            else
              some (.inr false)
        else
          some (.inr false)
noncomputable def L05_SumBack (a0 : (List Int)) : Option Bool := (L05_SumBack_0 a0).bind (endO L05_SumBack_step)
inductive L05_SumBurst_S where
  | L0 (v1 : Int) (v2 : Int) (v7 : (List Int)) (v8 : Bool) (v9 : Int)
def L05_SumBurst_L0 (v1 : Int) (v2 : Int) (v7 : (List Int)) (v8 : Bool) (v9 : Int) : Option (L05_SumBurst_S ⊕ Bool) :=
  bif decide (v9 < 32) then
    Option.bind (ok? (decide ((IntKind.wrap .i64 (8 * (v7.length : Int))) ≠ 0))) fun x11 =>
      Option.bind (ok? (decide (¬ v9 < 0))) fun x13 =>
        bif ((bitOp .and .u32 (shrI .u32 v2 v9) 1) == 1) then
          bif decide ((IntKind.wrap .i64 ((Int.tmod (IntKind.wrap .i64 v1) (IntKind.wrap .i64 (8 * (v7.length : Int)))) + v9)) < (IntKind.wrap .i64 (8 * (v7.length : Int)))) then
              Option.bind (idx? v7 (quoI .i64 (IntKind.wrap .i64 ((Int.tmod (IntKind.wrap .i64 v1) (IntKind.wrap .i64 (8 * (v7.length : Int)))) + v9)) 8)) fun x17 =>
                  Option.bind (ok? (decide (¬ (Int.tmod (IntKind.wrap .i64 ((Int.tmod (IntKind.wrap .i64 v1) (IntKind.wrap .i64 (8 * (v7.length : Int)))) + v9)) 8) < 0))) fun x19 =>
                      Option.bind (set? v7 (quoI .i64 (IntKind.wrap .i64 ((Int.tmod (IntKind.wrap .i64 v1) (IntKind.wrap .i64 (8 * (v7.length : Int)))) + v9)) 8) (bitOp .xor .u8 x17 (shlI .u8 1 (Int.tmod (IntKind.wrap .i64 ((Int.tmod (IntKind.wrap .i64 v1) (IntKind.wrap .i64 (8 * (v7.length : Int)))) + v9)) 8)))) fun x21 =>
                          some (.inl (.L0 v1 v2 x21 true (IntKind.wrap .i64 (v9 + 1))))
          else
            some (.inl (.L0 v1 v2 v7 v8 (IntKind.wrap .i64 (v9 + 1))))
        else
          some (.inl (.L0 v1 v2 v7 v8 (IntKind.wrap .i64 (v9 + 1))))
  else
    Option.bind (sum_Open v7) fun x23 =>
      bif (!v8) then
        bif (x23.2 == 0) then
          Option.bind (L05_alive) fun x27 =>
            some (.inr x27)
        else
          some (.inr false)
      else
        bif (x23.2 == 8) then
          bif ((x23.1.length : Int) == 0) then
            Option.bind (L05_alive) fun x31 =>
              some (.inr x31)
          else
            some (.inr false)
        else
          some (.inr false)
def L05_SumBurst_step : L05_SumBurst_S → Option (L05_SumBurst_S ⊕ Bool)
  | .L0 v1 v2 v7 v8 v9 => L05_SumBurst_L0 v1 v2 v7 v8 v9
def L05_SumBurst_0 (a0 : (List Int)) (a1 : Int) (a2 : Int) : Option (L05_SumBurst_S ⊕ Bool) :=
  bif decide ((a0.length : Int) > 1000) then
    Option.bind (L05_alive) fun x2 =>
      some (.inr x2)
  else
    bif (a2 == 0) then
      Option.bind (L05_alive) fun x5 =>
        some (.inr x5)
    else
      Option.bind (sum_Seal a0) fun x7 =>
        bif ((x7.length : Int) != (IntKind.wrap .i64 ((a0.length : Int) + 4))) then
          some (.inr false)
        else
          some (.inl (.L0 a1 a2 x7 false 0))
noncomputable def L05_SumBurst (a0 : (List Int)) (a1 : Int) (a2 : Int) : Option Bool := (L05_SumBurst_0 a0 a1 a2).bind (endO L05_SumBurst_step)
inductive L05_SumApart_S where
  | L0 (v0 : (List Int)) (v3 : (List Int)) (v4 : (List Int)) (v21 : Int) (v22 : Int)
  | L1 (v0 : (List Int)) (v3 : (List Int)) (v4 : (List Int)) (v6 : (List Int)) (v7 : Int) (v40 : Int) (v41 : Int)
def L05_SumApart_L0 (v0 : (List Int)) (v3 : (List Int)) (v4 : (List Int)) (v21 : Int) (v22 : Int) : Option (L05_SumApart_S ⊕ Bool) :=
  bif decide (v22 < v21) then
    Option.bind (idx? v4 v22) fun x9 =>
          Option.bind (set? v4 v22 (bitOp .xor .u8 x9 255)) fun x11 =>
              some (.inl (.L0 v0 v3 x11 v21 (IntKind.wrap .i64 (v22 + 1))))
  else
    Option.bind (sum_Seal v0) fun x13 =>
      Option.bind (sum_Open x13) fun x15 =>
        some (.inl (.L1 v0 v3 x13 x15.1 x15.2 (x15.1.length : Int) 0))
def L05_SumApart_L1 (v0 : (List Int)) (v3 : (List Int)) (v4 : (List Int)) (v6 : (List Int)) (v7 : Int) (v40 : Int) (v41 : Int) : Option (L05_SumApart_S ⊕ Bool) :=
  bif decide (v41 < v40) then
    Option.bind (idx? v6 v41) fun x18 =>
          Option.bind (set? v6 v41 (bitOp .xor .u8 x18 255)) fun x20 =>
              some (.inl (.L1 v0 v3 v4 x20 v7 v40 (IntKind.wrap .i64 (v41 + 1))))
  else
    Option.bind (sum_Open v4) fun x22 =>
      bif (v7 == 0) then
        bif (x22.2 == 0) then
          Option.bind (R05_Same v0 v3) fun x26 =>
            bif x26 then
              Option.bind (R05_Same x22.1 v3) fun x29 =>
                bif x29 then
                  Option.bind (L05_alive) fun x32 =>
                    some (.inr x32)
                else
                  some (.inr false)
            else
              some (.inr false)
        else
          some (.inr false)
      else
        some (.inr false)
def L05_SumApart_step : L05_SumApart_S → Option (L05_SumApart_S ⊕ Bool)
  | .L0 v0 v3 v4 v21 v22 => L05_SumApart_L0 v0 v3 v4 v21 v22
  | .L1 v0 v3 v4 v6 v7 v40 v41 => L05_SumApart_L1 v0 v3 v4 v6 v7 v40 v41
def L05_SumApart_0 (a0 : (List Int)) : Option (L05_SumApart_S ⊕ Bool) :=
  bif decide ((a0.length : Int) > 4000) then
    Option.bind (L05_alive) fun x2 =>
      some (.inr x2)
  else
    Option.bind (app? 1 ([] : (List Int)) a0) fun x4 =>
      Option.bind (sum_Seal a0) fun x6 =>
        some (.inl (.L0 a0 x4 x6 (x6.length : Int) 0))
noncomputable def L05_SumApart (a0 : (List Int)) : Option Bool := (L05_SumApart_0 a0).bind (endO L05_SumApart_step)
end
end Go.PW
