import Derived.Test.YtloamjgjcjandaaGreatQX
set_option linter.all false
set_option maxRecDepth 100000
namespace Go.PW
def Zyq : Zkp → Prop
 | .L0 E0 v3 => (Zw E0) ∧ (0 ≤ v3)
def Zne : Zkp → M6
 | .L0 E0 v3 => (1, ((E0.Players.length : Int) - v3).toNat, 1000000, 0, 0, 0)
theorem Z52 (E0 : Za) (v3 : Int) (h : (Zw E0) ∧ (0 ≤ v3)) : Tot (Zja E0 v3).den (Nx Zyq Zne (1, ((E0.Players.length : Int) - v3).toNat, 1000000, 0, 0, 0) (fun r => True)) := by
 obtain ⟨ob30000000, cv3⟩ := h
 dsimp only [Zja, LT.den]
 have q1 : E0.Players.length * 152 ≤ 140737488351232 := ob30000000.1.1
 refine tD (fun h2 => ?_) (fun h2 => ?_)
 ·refine tB (tI (by omega) (by omega)) (fun x3 h4 => ?_)
  have oh4 : Zf0 x3 := ob30000000.1.2 x3 h4.1
  refine tB (Zex x3.Life (-1000000) 1000000) (fun x5 h6 => ?_)
  refine tO (fun h7 => ?_) (fun h7 => ?_)
  ·exact tR trivial
  ·refine tB (Zex x3.Venom 0 1000000) (fun x8 h9 => ?_)
   refine tO (fun h10 => ?_) (fun h10 => ?_)
   ·exact tR trivial
   ·refine tB (Zex x3.Lands 0 1000000) (fun x11 h12 => ?_)
    refine tO (fun h13 => ?_) (fun h13 => ?_)
    ·exact tR trivial
    ·refine tB (Zahv x3.Pool) (fun x14 h15 => ?_)
     refine tO (fun h16 => ?_) (fun h16 => ?_)
     ·exact tR trivial
     ·refine tB (Zmm E0 x3.Library 2 v3 ob30000000 oh4.1) (fun x17 h18 => ?_)
      refine tO (fun h19 => ?_) (fun h19 => ?_)
      ·exact tR trivial
      ·refine tB (Zmm E0 x3.Hand 1 v3 ob30000000 oh4.2.1) (fun x20 h21 => ?_)
       refine tO (fun h22 => ?_) (fun h22 => ?_)
       ·exact tR trivial
       ·refine tB (Zmm E0 x3.Graveyard 3 v3 ob30000000 oh4.2.2) (fun x23 h24 => ?_)
        refine tO (fun h25 => ?_) (fun h25 => ?_)
        ·exact tR trivial
        ·have q26 : -9223372036854775808 ≤ (v3 + 1) → (v3 + 1) < 9223372036854775808 → IntKind.wrap .i64 (v3 + 1) = (v3 + 1) := Zao _
         have q27 : -9223372036854775808 ≤ IntKind.wrap .i64 (v3 + 1) ∧ IntKind.wrap .i64 (v3 + 1) < 9223372036854775808 := Zap _
         exact tL ⟨ob30000000, cl⟩ (by unfold Zne lt6; dsimp only; omega)
 ·refine tB (Zmm E0 E0.Battlefield 0 (-1) ob30000000 ob30000000.2.2.1) (fun x28 h29 => ?_)
  refine tF (fun h30 => ?_) (fun h30 => ?_)
  ·refine tB (Zmm E0 E0.Exile 4 (-1) ob30000000 ob30000000.2.2.2.1) (fun x31 h32 => ?_)
   exact tR trivial
  ·exact tR trivial
theorem Zaen (a0 : Za) (oa0 : Zw a0) : Tot (Zkz a0) (fun r => True) := by
 unfold Zkz
 refine tX (Inv := Zyq) (μ := Zne) (m := (1000000, 0, 0, 0, 0, 0)) ?_ ?_
 ·dsimp only [Ztm, LT.den]
  have q1 : a0.Players.length * 152 ≤ 140737488351232 := oa0.1.1
  refine tB (Zex (a0.Players.length : Int) 2 4) (fun x2 h3 => ?_)
  refine tO (fun h4 => ?_) (fun h4 => ?_)
  ·exact tR trivial
  ·exact tL ⟨oa0, cl⟩ (by unfold Zne lt6; dsimp only; omega)
 ·intro s hs
  cases s with
  | L0 E0 v3 => exact Z52 E0 v3 hs
theorem Zhc (a0 : Za) (a1 : Int) (oa0 : Zw a0) : Tot (Z1x a0 a1) (fun r => True) := by
 unfold Z1x
 refine tZ ?_
 dsimp only [Z4u, LT.den]
 have q1 : a0.Players.length * 152 ≤ 140737488351232 := oa0.1.1
 have q2 : -9223372036854775808 ≤ ((a0.Players.length : Int) - 1) → ((a0.Players.length : Int) - 1) < 9223372036854775808 → IntKind.wrap .i64 ((a0.Players.length : Int) - 1) = ((a0.Players.length : Int) - 1) := Zao _
 have q3 : -9223372036854775808 ≤ IntKind.wrap .i64 ((a0.Players.length : Int) - 1) ∧ IntKind.wrap .i64 ((a0.Players.length : Int) - 1) < 9223372036854775808 := Zap _
 refine tB (Zex a1 0 (IntKind.wrap .i64 ((a0.Players.length : Int) - 1))) (fun x4 h5 => ?_)
 exact tR trivial
def Zaeo : Zwk → Prop
 | .L0 E0 v3 => (0 ≤ v3) ∧ True
def Zyr : Zwk → M6
 | .L0 E0 v3 => (1, (3 - v3).toNat, 1000000, 0, 0, 0)
theorem Zahx (E0 : (A3 Int)) (v3 : Int) (h : (0 ≤ v3) ∧ True) : Tot (Z4w E0 v3).den (Nx Zaeo Zyr (1, (3 - v3).toNat, 1000000, 0, 0, 0) (fun r => True)) := by
 obtain ⟨cv3, _⟩ := h
 dsimp only [Z4w, LT.den]
 refine tD (fun h1 => ?_) (fun h1 => ?_)
 ·refine tB (tI (by omega) (by have e : (A3.list E0).length = 3 := rfl; omega)) (fun x2 h3 => ?_)
  refine tD (fun h4 => ?_) (fun h4 => ?_)
  ·exact tR trivial
  ·refine tB (tI (by omega) (by have e : (A3.list E0).length = 3 := rfl; omega)) (fun x5 h6 => ?_)
   refine tD (fun h7 => ?_) (fun h7 => ?_)
   ·exact tR trivial
   ·have q8 : -9223372036854775808 ≤ (v3 + 1) → (v3 + 1) < 9223372036854775808 → IntKind.wrap .i64 (v3 + 1) = (v3 + 1) := Zao _
    have q9 : -9223372036854775808 ≤ IntKind.wrap .i64 (v3 + 1) ∧ IntKind.wrap .i64 (v3 + 1) < 9223372036854775808 := Zap _
    exact tL ⟨cl, trivial⟩ (by unfold Zyr lt6; dsimp only; omega)
 ·exact tR trivial
theorem Zapr (a0 : (A3 Int)) : Tot (Zalf a0) (fun r => True) := by
 unfold Zalf
 refine tX (Inv := Zaeo) (μ := Zyr) (m := (1000000, 0, 0, 0, 0, 0)) ?_ ?_
 ·dsimp only [Zald, LT.den]
  exact tL ⟨cl, trivial⟩ (by unfold Zyr lt6; dsimp only; omega)
 ·intro s hs
  cases s with
  | L0 E0 v3 => exact Zahx E0 v3 hs
theorem Zami (a0 : Zh) : Tot (Z91 a0) (fun r => True) := by
 unfold Z91
 refine tZ ?_
 dsimp only [Zac7, LT.den]
 exact tR trivial
theorem Zahy (a0 : Zh) : Tot (Z4x a0) (fun r => True) := by
 unfold Z4x
 refine tZ ?_
 dsimp only [Z8b, LT.den]
 exact tR trivial
theorem Zaps (a0 : Zh) (a1 : Int) (a2 : Int) : Tot (Zalj a0 a1 a2) (fun r => True) := by
 unfold Zalj
 refine tZ ?_
 dsimp only [Zalh, LT.den]
 refine tD (fun h1 => ?_) (fun h1 => ?_)
 ·exact tR trivial
 ·refine tD (fun h2 => ?_) (fun h2 => ?_)
  ·exact tR trivial
  ·refine tD (fun h3 => ?_) (fun h3 => ?_)
   ·exact tR trivial
   ·refine tD (fun h4 => ?_) (fun h4 => ?_)
    ·exact tR trivial
    ·refine tD (fun h5 => ?_) (fun h5 => ?_)
     ·exact tR trivial
     ·refine tD (fun h6 => ?_) (fun h6 => ?_)
      ·exact tR trivial
      ·refine tD (fun h7 => ?_) (fun h7 => ?_)
       ·exact tR trivial
       ·refine tD (fun h8 => ?_) (fun h8 => ?_)
        ·exact tR trivial
        ·refine tD (fun h9 => ?_) (fun h9 => ?_)
         ·exact tR trivial
         ·refine tD (fun h10 => ?_) (fun h10 => ?_)
          ·exact tR trivial
          ·refine tD (fun h11 => ?_) (fun h11 => ?_)
           ·exact tR trivial
           ·refine tD (fun h12 => ?_) (fun h12 => ?_)
            ·exact tR trivial
            ·refine tD (fun h13 => ?_) (fun h13 => ?_)
             ·exact tR trivial
             ·refine tD (fun h14 => ?_) (fun h14 => ?_)
              ·exact tR trivial
              ·refine tD (fun h15 => ?_) (fun h15 => ?_)
               ·exact tR trivial
               ·refine tD (fun h16 => ?_) (fun h16 => ?_)
                ·exact tR trivial
                ·refine tD (fun h17 => ?_) (fun h17 => ?_)
                 ·exact tR trivial
                 ·refine tB (Zapr a0.Counters) (fun x18 h19 => ?_)
                  refine tO (fun h20 => ?_) (fun h20 => ?_)
                  ·exact tR trivial
                  ·refine tD (fun h21 => ?_) (fun h21 => ?_)
                   ·exact tR trivial
                   ·refine tD (fun h22 => ?_) (fun h22 => ?_)
                    ·exact tR trivial
                    ·refine tD (fun h23 => ?_) (fun h23 => ?_)
                     ·exact tR trivial
                     ·refine tD (fun h24 => ?_) (fun h24 => ?_)
                      ·exact tR trivial
                      ·refine tE (fun h25 => ?_) (fun h25 => ?_)
                       ·exact tR trivial
                       ·refine tB (Zami a0) (fun x26 h27 => ?_)
                        refine tF (fun h28 => ?_) (fun h28 => ?_)
                        ·refine tB (Zahy a0) (fun x29 h30 => ?_)
                         refine tF (fun h31 => ?_) (fun h31 => ?_)
                         ·refine tO (fun h32 => ?_) (fun h32 => ?_)
                          ·refine tO (fun h33 => ?_) (fun h33 => ?_)
                           ·exact tR trivial
                           ·exact tR trivial
                          ·exact tR trivial
                         ·exact tR trivial
                        ·exact tR trivial
def Z08 : Zlz → Prop
 | .L0 v1 E0 v5 v6 => (Zw E0) ∧ (0 ≤ v6)
def Ziq : Zlz → M6
 | .L0 v1 E0 v5 v6 => (1, ((E0.Stack.length : Int) - v6).toNat, 1000000, 0, 0, 0)
theorem Z63 (v1 : Int) (E0 : Za) (v5 : Int) (v6 : Int) (h : (Zw E0) ∧ (0 ≤ v6)) : Tot (Zto v1 E0 v5 v6).den (Nx Z08 Ziq (1, ((E0.Stack.length : Int) - v6).toNat, 1000000, 0, 0, 0) (fun r => True)) := by
 obtain ⟨ob30000000, cv6⟩ := h
 dsimp only [Zto, LT.den]
 have q1 : E0.Stack.length * 824 ≤ 140737488351232 := ob30000000.2.2.2.2.1.1
 refine tD (fun h2 => ?_) (fun h2 => ?_)
 ·refine tB (tI (by omega) (by omega)) (fun x3 h4 => ?_)
  have oh4 : Zfx x3 := ob30000000.2.2.2.2.1.2 x3 h4.1
  refine tE (fun h5 => ?_) (fun h5 => ?_)
  ·refine tE (fun h6 => ?_) (fun h6 => ?_)
   ·have q7 : -9223372036854775808 ≤ (v5 + 1) → (v5 + 1) < 9223372036854775808 → IntKind.wrap .i64 (v5 + 1) = (v5 + 1) := Zao _
    have q8 : -9223372036854775808 ≤ IntKind.wrap .i64 (v5 + 1) ∧ IntKind.wrap .i64 (v5 + 1) < 9223372036854775808 := Zap _
    have q9 : -9223372036854775808 ≤ (v6 + 1) → (v6 + 1) < 9223372036854775808 → IntKind.wrap .i64 (v6 + 1) = (v6 + 1) := Zao _
    have q10 : -9223372036854775808 ≤ IntKind.wrap .i64 (v6 + 1) ∧ IntKind.wrap .i64 (v6 + 1) < 9223372036854775808 := Zap _
    exact tL ⟨ob30000000, cl⟩ (by unfold Ziq lt6; dsimp only; omega)
   ·have q11 : -9223372036854775808 ≤ (v6 + 1) → (v6 + 1) < 9223372036854775808 → IntKind.wrap .i64 (v6 + 1) = (v6 + 1) := Zao _
    have q12 : -9223372036854775808 ≤ IntKind.wrap .i64 (v6 + 1) ∧ IntKind.wrap .i64 (v6 + 1) < 9223372036854775808 := Zap _
    exact tL ⟨ob30000000, cl⟩ (by unfold Ziq lt6; dsimp only; omega)
  ·have q13 : -9223372036854775808 ≤ (v6 + 1) → (v6 + 1) < 9223372036854775808 → IntKind.wrap .i64 (v6 + 1) = (v6 + 1) := Zao _
   have q14 : -9223372036854775808 ≤ IntKind.wrap .i64 (v6 + 1) ∧ IntKind.wrap .i64 (v6 + 1) < 9223372036854775808 := Zap _
   exact tL ⟨ob30000000, cl⟩ (by unfold Ziq lt6; dsimp only; omega)
 ·exact tR trivial
theorem Zaf6 (a0 : Za) (a1 : Int) (oa0 : Zw a0) : Tot (Z1y a0 a1) (fun r => True) := by
 unfold Z1y
 refine tX (Inv := Z08) (μ := Ziq) (m := (1000000, 0, 0, 0, 0, 0)) ?_ ?_
 ·dsimp only [Z4y, LT.den]
  exact tL ⟨oa0, cl⟩ (by unfold Ziq lt6; dsimp only; omega)
 ·intro s hs
  cases s with
  | L0 v1 E0 v5 v6 => exact Z63 v1 E0 v5 v6 hs
theorem Zmn (a0 : (List Int)) (oa0 : (SzL 8 (fun _ => True)) a0) : Tot (Zrj a0) (fun r => ((SzL 8 (fun _ => True)) r)) := by
 unfold Zrj
 refine tZ ?_
 have lb_a0 : a0.length * 8 ≤ 140737488351232 := oa0.1
 dsimp only [Z1z, LT.den]
 refine tB ((by have q3 : a0.length * 8 ≤ 140737488351232 := oa0.1;  exact tA (by first | omega | (simp only [List.length_cons, List.length_nil]; omega)) (by decide))) (fun x1 h2 => ?_)
 have lh2 : x1.length = ([] : (List Int)).length + a0.length := by rw [h2, List.length_append]
 try simp only [List.length_cons, List.length_nil, Nat.zero_add] at lh2
 exact tR ⟨by omega, fun _ _ => trivial⟩
theorem Zamj (a0 : Za) (a1 : Int) (a2 : Int) (oa0 : Zw a0) : Tot (Zwl a0 a1 a2) (fun r => ((SzL 8 (fun _ => True)) r)) := by
 unfold Zwl
 refine tZ ?_
 dsimp only [Z10, LT.den]
 refine tE (fun h1 => ?_) (fun h1 => ?_)
 ·refine tB (Zmn a0.Battlefield oa0.2.2.1) (fun x2 h3 => ?_)
  replace h3 : ((SzL 8 (fun _ => True)) x2) := h3
  exact tR h3
 ·refine tE (fun h4 => ?_) (fun h4 => ?_)
  ·refine tB (Zmn a0.Exile oa0.2.2.2.1) (fun x5 h6 => ?_)
   replace h6 : ((SzL 8 (fun _ => True)) x5) := h6
   exact tR h6
  ·refine tD (fun h7 => ?_) (fun h7 => ?_)
   ·exact tR SzL.nil
   ·have q8 : a0.Players.length * 152 ≤ 140737488351232 := oa0.1.1
    refine tD (fun h9 => ?_) (fun h9 => ?_)
    ·exact tR SzL.nil
    ·refine tE (fun h10 => ?_) (fun h10 => ?_)
     ·refine tB (tI (by omega) (by omega)) (fun x11 h12 => ?_)
      have oh12 : Zf0 x11 := oa0.1.2 x11 h12.1
      refine tB (Zmn x11.Hand oh12.2.1) (fun x13 h14 => ?_)
      replace h14 : ((SzL 8 (fun _ => True)) x13) := h14
      exact tR h14
     ·refine tE (fun h15 => ?_) (fun h15 => ?_)
      ·refine tB (tI (by omega) (by omega)) (fun x16 h17 => ?_)
       have oh17 : Zf0 x16 := oa0.1.2 x16 h17.1
       refine tB (Zmn x16.Library oh17.1) (fun x18 h19 => ?_)
       replace h19 : ((SzL 8 (fun _ => True)) x18) := h19
       exact tR h19
      ·refine tE (fun h20 => ?_) (fun h20 => ?_)
       ·refine tB (tI (by omega) (by omega)) (fun x21 h22 => ?_)
        have oh22 : Zf0 x21 := oa0.1.2 x21 h22.1
        refine tB (Zmn x21.Graveyard oh22.2.2) (fun x23 h24 => ?_)
        replace h24 : ((SzL 8 (fun _ => True)) x23) := h24
        exact tR h24
       ·exact tR SzL.nil
theorem Z09 (a0 : Za) (a1 : Zh) (oa0 : Zw a0) : Tot (Zj2 a0 a1) (fun r => True) := by
 unfold Zj2
 refine tZ ?_
 dsimp only [Zwm, LT.den]
 refine tE (fun h1 => ?_) (fun h1 => ?_)
 ·refine tB (Zaf6 a0 a1.Id oa0) (fun x2 h3 => ?_)
  exact tR trivial
 ·refine tB (Zamj a0 a1.Zone a1.Owner oa0) (fun x4 h5 => ?_)
  replace h5 : ((SzL 8 (fun _ => True)) x4) := h5
  refine tB (Zuq x4 a1.Id h5) (fun x6 h7 => ?_)
  exact tR trivial
def Zys : Zkq → Prop
 | .L0 v0 E0 v5 => ((SzL 176 Zai) v0) ∧ (Zw E0) ∧ (0 ≤ v5)
def Zjl : Zkq → M6
 | .L0 v0 E0 v5 => (1, ((E0.Objects.length : Int) - v5).toNat, 1000000, 0, 0, 0)
theorem Z53 (v0 : (List Zs)) (E0 : Za) (v5 : Int) (h : ((SzL 176 Zai) v0) ∧ (Zw E0) ∧ (0 ≤ v5)) : Tot (Zjb v0 E0 v5).den (Nx Zys Zjl (1, ((E0.Objects.length : Int) - v5).toNat, 1000000, 0, 0, 0) (fun r => True)) := by
 obtain ⟨ov0, ob30000000, cv5⟩ := h
 have lb_v0 : v0.length * 176 ≤ 140737488351232 := ov0.1
 dsimp only [Zjb, LT.den]
 have q1 : E0.Objects.length * 128 ≤ 140737488351232 := ob30000000.2.1.1
 refine tD (fun h2 => ?_) (fun h2 => ?_)
 ·refine tB (tI (by omega) (by omega)) (fun x3 h4 => ?_)
  have q5 : v0.length * 176 ≤ 140737488351232 := ov0.1
  have q6 : E0.Players.length * 152 ≤ 140737488351232 := ob30000000.1.1
  refine tB (Zaps x3 (v0.length : Int) (E0.Players.length : Int)) (fun x7 h8 => ?_)
  refine tO (fun h9 => ?_) (fun h9 => ?_)
  ·exact tR trivial
  ·refine tD (fun h10 => ?_) (fun h10 => ?_)
   ·exact tR trivial
   ·refine tD (fun h11 => ?_) (fun h11 => ?_)
    ·exact tR trivial
    ·refine tD (fun h12 => ?_) (fun h12 => ?_)
     ·have q13 : -9223372036854775808 ≤ (v5 - 1) → (v5 - 1) < 9223372036854775808 → IntKind.wrap .i64 (v5 - 1) = (v5 - 1) := Zao _
      have q14 : -9223372036854775808 ≤ IntKind.wrap .i64 (v5 - 1) ∧ IntKind.wrap .i64 (v5 - 1) < 9223372036854775808 := Zap _
      refine tB (tI (by omega) (by omega)) (fun x15 h16 => ?_)
      refine tD (fun h17 => ?_) (fun h17 => ?_)
      ·exact tR trivial
      ·refine tB (Z09 E0 x3 ob30000000) (fun x18 h19 => ?_)
       refine tO (fun h20 => ?_) (fun h20 => ?_)
       ·exact tR trivial
       ·have q21 : -9223372036854775808 ≤ (v5 + 1) → (v5 + 1) < 9223372036854775808 → IntKind.wrap .i64 (v5 + 1) = (v5 + 1) := Zao _
        have q22 : -9223372036854775808 ≤ IntKind.wrap .i64 (v5 + 1) ∧ IntKind.wrap .i64 (v5 + 1) < 9223372036854775808 := Zap _
        exact tL ⟨ov0, ob30000000, cl⟩ (by unfold Zjl lt6; dsimp only; omega)
     ·refine tB (Z09 E0 x3 ob30000000) (fun x23 h24 => ?_)
      refine tO (fun h25 => ?_) (fun h25 => ?_)
      ·exact tR trivial
      ·have q26 : -9223372036854775808 ≤ (v5 + 1) → (v5 + 1) < 9223372036854775808 → IntKind.wrap .i64 (v5 + 1) = (v5 + 1) := Zao _
       have q27 : -9223372036854775808 ≤ IntKind.wrap .i64 (v5 + 1) ∧ IntKind.wrap .i64 (v5 + 1) < 9223372036854775808 := Zap _
       exact tL ⟨ov0, ob30000000, cl⟩ (by unfold Zjl lt6; dsimp only; omega)
 ·exact tR trivial
theorem Zlh (a0 : (List Zs)) (a1 : Za) (oa0 : (SzL 176 Zai) a0) (oa1 : Zw a1) : Tot (Zhg a0 a1) (fun r => True) := by
 unfold Zhg
 refine tX (Inv := Zys) (μ := Zjl) (m := (1000000, 0, 0, 0, 0, 0)) ?_ ?_
 ·have lb_a0 : a0.length * 176 ≤ 140737488351232 := oa0.1
  dsimp only [Ztp, LT.den]
  have q1 : a1.Objects.length * 128 ≤ 140737488351232 := oa1.2.1.1
  refine tD (fun h2 => ?_) (fun h2 => ?_)
  ·exact tR trivial
  ·exact tL ⟨oa0, oa1, cl⟩ (by unfold Zjl lt6; dsimp only; omega)
 ·intro s hs
  cases s with
  | L0 v0 E0 v5 => exact Z53 v0 E0 v5 hs
def Zxb : Zg6 → Prop
 | .L0 v0 v1 v5 => ((SzL 176 Za1) v0) ∧ ((SzL 176 Za1) v1) ∧ (0 ≤ v5) ∧ (v0.length = v1.length)
def Zli : Zg6 → M6
 | .L0 v0 v1 v5 => (1, ((v0.length : Int) - v5).toNat, 1000000, 0, 0, 0)
theorem Z3l (v0 : (List Zj)) (v1 : (List Zj)) (v5 : Int) (h : ((SzL 176 Za1) v0) ∧ ((SzL 176 Za1) v1) ∧ (0 ≤ v5) ∧ (v0.length = v1.length)) : Tot (Zgn v0 v1 v5).den (Nx Zxb Zli (1, ((v0.length : Int) - v5).toNat, 1000000, 0, 0, 0) (fun r => True)) := by
 obtain ⟨ov0, ov1, cv5, i0⟩ := h
 have lb_v0 : v0.length * 176 ≤ 140737488351232 := ov0.1
 have lb_v1 : v1.length * 176 ≤ 140737488351232 := ov1.1
 dsimp only [Zgn, LT.den]
 have q1 : v0.length * 176 ≤ 140737488351232 := ov0.1
 refine tD (fun h2 => ?_) (fun h2 => ?_)
 ·refine tB (tI (by omega) (by omega)) (fun x3 h4 => ?_)
  have oh4 : Za1 x3 := ov0.2 x3 h4.1
  refine tB (tI (by omega) (by omega)) (fun x5 h6 => ?_)
  have oh6 : Za1 x5 := ov1.2 x5 h6.1
  refine tO (fun h7 => ?_) (fun h7 => ?_)
  ·exact tR trivial
  ·have q8 : -9223372036854775808 ≤ (v5 + 1) → (v5 + 1) < 9223372036854775808 → IntKind.wrap .i64 (v5 + 1) = (v5 + 1) := Zao _
   have q9 : -9223372036854775808 ≤ IntKind.wrap .i64 (v5 + 1) ∧ IntKind.wrap .i64 (v5 + 1) < 9223372036854775808 := Zap _
   exact tL ⟨ov0, ov1, cl, cl⟩ (by unfold Zli lt6; dsimp only; omega)
 ·exact tR trivial
theorem Zxc (a0 : (List Zj)) (a1 : (List Zj)) (oa0 : (SzL 176 Za1) a0) (oa1 : (SzL 176 Za1) a1) : Tot (Zl0 a0 a1) (fun r => True) := by
 unfold Zl0
 refine tX (Inv := Zxb) (μ := Zli) (m := (1000000, 0, 0, 0, 0, 0)) ?_ ?_
 ·have lb_a0 : a0.length * 176 ≤ 140737488351232 := oa0.1
  have lb_a1 : a1.length * 176 ≤ 140737488351232 := oa1.1
  dsimp only [Zrk, LT.den]
  have q1 : a0.length * 176 ≤ 140737488351232 := oa0.1
  have q2 : a1.length * 176 ≤ 140737488351232 := oa1.1
  refine tN (fun h3 => ?_) (fun h3 => ?_)
  ·exact tR trivial
  ·exact tL ⟨oa0, oa1, cl, cl⟩ (by unfold Zli lt6; dsimp only; omega)
 ·intro s hs
  cases s with
  | L0 v0 v1 v5 => exact Z3l v0 v1 v5 hs
theorem Zamk (a0 : Zm) (a1 : Zm) (oa0 : Z9 a0) (oa1 : Z9 a1) : Tot (Zwn a0 a1) (fun r => True) := by
 unfold Zwn
 refine tZ ?_
 dsimp only [Z11, LT.den]
 refine tE (fun h1 => ?_) (fun h1 => ?_)
 ·refine tF (fun h2 => ?_) (fun h2 => ?_)
  ·refine tF (fun h3 => ?_) (fun h3 => ?_)
   ·refine tE (fun h4 => ?_) (fun h4 => ?_)
    ·refine tE (fun h5 => ?_) (fun h5 => ?_)
     ·refine tF (fun h6 => ?_) (fun h6 => ?_)
      ·refine tF (fun h7 => ?_) (fun h7 => ?_)
       ·refine tF (fun h8 => ?_) (fun h8 => ?_)
        ·refine tB (Zxc a0.Mods a1.Mods oa0.2.2.2.2 oa1.2.2.2.2) (fun x9 h10 => ?_)
         exact tR trivial
        ·exact tR trivial
       ·exact tR trivial
      ·exact tR trivial
     ·exact tR trivial
    ·exact tR trivial
   ·exact tR trivial
  ·exact tR trivial
 ·exact tR trivial
def Zxd : Zg7 → Prop
 | .L0 v0 v1 v5 => ((SzL 560 Z9) v0) ∧ ((SzL 560 Z9) v1) ∧ (0 ≤ v5) ∧ (v0.length = v1.length)
def Zlj : Zg7 → M6
 | .L0 v0 v1 v5 => (1, ((v0.length : Int) - v5).toNat, 1000000, 0, 0, 0)
theorem Z3m (v0 : (List Zm)) (v1 : (List Zm)) (v5 : Int) (h : ((SzL 560 Z9) v0) ∧ ((SzL 560 Z9) v1) ∧ (0 ≤ v5) ∧ (v0.length = v1.length)) : Tot (Zgo v0 v1 v5).den (Nx Zxd Zlj (1, ((v0.length : Int) - v5).toNat, 1000000, 0, 0, 0) (fun r => True)) := by
 obtain ⟨ov0, ov1, cv5, i0⟩ := h
 have lb_v0 : v0.length * 560 ≤ 140737488351232 := ov0.1
 have lb_v1 : v1.length * 560 ≤ 140737488351232 := ov1.1
 dsimp only [Zgo, LT.den]
 have q1 : v0.length * 560 ≤ 140737488351232 := ov0.1
 refine tD (fun h2 => ?_) (fun h2 => ?_)
 ·refine tB (tI (by omega) (by omega)) (fun x3 h4 => ?_)
  have oh4 : Z9 x3 := ov0.2 x3 h4.1
  refine tB (tI (by omega) (by omega)) (fun x5 h6 => ?_)
  have oh6 : Z9 x5 := ov1.2 x5 h6.1
  refine tB (Zamk x3 x5 oh4 oh6) (fun x7 h8 => ?_)
  refine tO (fun h9 => ?_) (fun h9 => ?_)
  ·exact tR trivial
  ·have q10 : -9223372036854775808 ≤ (v5 + 1) → (v5 + 1) < 9223372036854775808 → IntKind.wrap .i64 (v5 + 1) = (v5 + 1) := Zao _
   have q11 : -9223372036854775808 ≤ IntKind.wrap .i64 (v5 + 1) ∧ IntKind.wrap .i64 (v5 + 1) < 9223372036854775808 := Zap _
   exact tL ⟨ov0, ov1, cl, cl⟩ (by unfold Zlj lt6; dsimp only; omega)
 ·exact tR trivial
theorem Zaav (a0 : (List Zm)) (a1 : (List Zm)) (oa0 : (SzL 560 Z9) a0) (oa1 : (SzL 560 Z9) a1) : Tot (Zl1 a0 a1) (fun r => True) := by
 unfold Zl1
 refine tX (Inv := Zxd) (μ := Zlj) (m := (1000000, 0, 0, 0, 0, 0)) ?_ ?_
 ·have lb_a0 : a0.length * 560 ≤ 140737488351232 := oa0.1
  have lb_a1 : a1.length * 560 ≤ 140737488351232 := oa1.1
  dsimp only [Zrl, LT.den]
  have q1 : a0.length * 560 ≤ 140737488351232 := oa0.1
  have q2 : a1.length * 560 ≤ 140737488351232 := oa1.1
  refine tN (fun h3 => ?_) (fun h3 => ?_)
  ·exact tR trivial
  ·exact tL ⟨oa0, oa1, cl, cl⟩ (by unfold Zlj lt6; dsimp only; omega)
 ·intro s hs
  cases s with
  | L0 v0 v1 v5 => exact Z3m v0 v1 v5 hs
def Z54 : Zm7 → Prop
 | .L0 E0 E1 v5 => (Za0 E0) ∧ (Za0 E1) ∧ (0 ≤ v5) ∧ (E0.Specs.length = E1.Specs.length)
def Zr9 : Zm7 → M6
 | .L0 E0 E1 v5 => (1, ((E0.Specs.length : Int) - v5).toNat, 1000000, 0, 0, 0)
theorem Zaep (E0 : Zl) (E1 : Zl) (v5 : Int) (h : (Za0 E0) ∧ (Za0 E1) ∧ (0 ≤ v5) ∧ (E0.Specs.length = E1.Specs.length)) : Tot (Ziz E0 E1 v5).den (Nx Z54 Zr9 (1, ((E0.Specs.length : Int) - v5).toNat, 1000000, 0, 0, 0) (fun r => True)) := by
 obtain ⟨ob30000000, ob30000001, cv5, i0⟩ := h
 dsimp only [Ziz, LT.den]
 have q1 : E0.Specs.length * 144 ≤ 140737488351232 := ob30000000.2.2.2.1.1
 refine tD (fun h2 => ?_) (fun h2 => ?_)
 ·refine tB (tI (by omega) (by omega)) (fun x3 h4 => ?_)
  have oh4 : Zhh x3 := ob30000000.2.2.2.1.2 x3 h4.1
  refine tB (tI (by omega) (by omega)) (fun x5 h6 => ?_)
  have oh6 : Zhh x5 := ob30000001.2.2.2.1.2 x5 h6.1
  refine tO (fun h7 => ?_) (fun h7 => ?_)
  ·exact tR trivial
  ·have q8 : -9223372036854775808 ≤ (v5 + 1) → (v5 + 1) < 9223372036854775808 → IntKind.wrap .i64 (v5 + 1) = (v5 + 1) := Zao _
   have q9 : -9223372036854775808 ≤ IntKind.wrap .i64 (v5 + 1) ∧ IntKind.wrap .i64 (v5 + 1) < 9223372036854775808 := Zap _
   exact tL ⟨ob30000000, ob30000001, cl, cl⟩ (by unfold Zr9 lt6; dsimp only; omega)
 ·refine tE (fun h10 => ?_) (fun h10 => ?_)
  ·refine tF (fun h11 => ?_) (fun h11 => ?_)
   ·refine tB (Zxc E0.Mods E1.Mods ob30000000.2.1 ob30000001.2.1) (fun x12 h13 => ?_)
    refine tF (fun h14 => ?_) (fun h14 => ?_)
    ·refine tF (fun h15 => ?_) (fun h15 => ?_)
     ·refine tF (fun h16 => ?_) (fun h16 => ?_)
      ·refine tF (fun h17 => ?_) (fun h17 => ?_)
       ·refine tF (fun h18 => ?_) (fun h18 => ?_)
        ·refine tB (Zaav E0.Effects E1.Effects ob30000000.2.2.2.2.1 ob30000001.2.2.2.2.1) (fun x19 h20 => ?_)
         refine tF (fun h21 => ?_) (fun h21 => ?_)
         ·exact tR trivial
         ·exact tR trivial
        ·exact tR trivial
       ·exact tR trivial
      ·exact tR trivial
     ·exact tR trivial
    ·exact tR trivial
   ·exact tR trivial
  ·exact tR trivial
theorem Zaml (a0 : Zl) (a1 : Zl) (oa0 : Za0 a0) (oa1 : Za0 a1) : Tot (Zwo a0 a1) (fun r => True) := by
 unfold Zwo
 refine tX (Inv := Z54) (μ := Zr9) (m := (1000000, 0, 0, 0, 0, 0)) ?_ ?_
 ·dsimp only [Z12, LT.den]
  have q1 : a0.Specs.length * 144 ≤ 140737488351232 := oa0.2.2.2.1.1
  have q2 : a1.Specs.length * 144 ≤ 140737488351232 := oa1.2.2.2.1.1
  refine tN (fun h3 => ?_) (fun h3 => ?_)
  ·exact tR trivial
  ·exact tL ⟨oa0, oa1, cl, cl⟩ (by unfold Zr9 lt6; dsimp only; omega)
 ·intro s hs
  cases s with
  | L0 E0 E1 v5 => exact Zaep E0 E1 v5 hs
theorem Zamm (a0 : Za) (a1 : Z4) (oa0 : Zw a0) (oa1 : Zfx a1) : Tot (Z92 a0 a1) (fun r => True) := by
 unfold Z92
 refine tZ ?_
 dsimp only [Zadd, LT.den]
 have q1 : -9223372036854775808 ≤ (a0.NextId - 1) → (a0.NextId - 1) < 9223372036854775808 → IntKind.wrap .i64 (a0.NextId - 1) = (a0.NextId - 1) := Zao _
 have q2 : -9223372036854775808 ≤ IntKind.wrap .i64 (a0.NextId - 1) ∧ IntKind.wrap .i64 (a0.NextId - 1) < 9223372036854775808 := Zap _
 refine tB (Zex a1.Id 1 (IntKind.wrap .i64 (a0.NextId - 1))) (fun x3 h4 => ?_)
 refine tO (fun h5 => ?_) (fun h5 => ?_)
 ·exact tR trivial
 ·refine tB (Zex a1.X 0 1000000) (fun x6 h7 => ?_)
  refine tO (fun h8 => ?_) (fun h8 => ?_)
  ·exact tR trivial
  ·have q9 : a1.Targets.length * 16 ≤ 140737488351232 := oa1.2.1
   refine tD (fun h10 => ?_) (fun h10 => ?_)
   ·exact tR trivial
   ·refine tB (Zhc a0 a1.Control oa0) (fun x11 h12 => ?_)
    refine tO (fun h13 => ?_) (fun h13 => ?_)
    ·exact tR trivial
    ·refine tB (Z07 a0 a1.Id oa0) (fun x14 h15 => ?_)
     refine tE (fun h16 => ?_) (fun h16 => ?_)
     ·refine tB (Zaml a1.Ability (⟨0, (⟨0, 0, 0, 0, 0, 0, 0, ([] : List UInt8), 0, 0, (⟨0, 0⟩ : Zc), (⟨0, 0⟩ : Zc), (⟨0, 0⟩ : Zc)⟩ : Zi), ([] : (List Zj)), (⟨(⟨0, 0, (⟨0, 0, 0, 0, 0⟩ : (A5 Int))⟩ : Zay), false, false, 0⟩ : Ze5), false, (⟨0, 0, (⟨0, 0, 0, 0, 0, 0, 0, ([] : List UInt8), 0, 0, (⟨0, 0⟩ : Zc), (⟨0, 0⟩ : Zc), (⟨0, 0⟩ : Zc)⟩ : Zi)⟩ : Zce), false, ([] : (List Zaz)), ([] : (List Zm)), (⟨0, 0, (⟨0, 0, 0, 0, 0, 0, 0, ([] : List UInt8), 0, 0, (⟨0, 0⟩ : Zc), (⟨0, 0⟩ : Zc), (⟨0, 0⟩ : Zc)⟩ : Zi), 0, 0, 0, 0⟩ : Za2)⟩ : Zl) oa1.1 ⟨(SzS.nil), SzL.nil, (SzS.nil), SzL.nil, SzL.nil, (SzS.nil)⟩) (fun x17 h18 => ?_)
      refine tE (fun h19 => ?_) (fun h19 => ?_)
      ·refine tF (fun h20 => ?_) (fun h20 => ?_)
       ·refine tE (fun h21 => ?_) (fun h21 => ?_)
        ·refine tF (fun h22 => ?_) (fun h22 => ?_)
         ·exact tR trivial
         ·refine tB (Zvd a1.Ability oa1.1) (fun x23 h24 => ?_)
          exact tR trivial
        ·exact tR trivial
       ·exact tR trivial
      ·exact tR trivial
     ·refine tE (fun h25 => ?_) (fun h25 => ?_)
      ·refine tO (fun h26 => ?_) (fun h26 => ?_)
       ·refine tB (Zvd a1.Ability oa1.1) (fun x27 h28 => ?_)
        exact tR trivial
       ·exact tR trivial
      ·exact tR trivial
def Zaeq : Zwp → Prop
 | .L0 v0 v3 => ((SzL 8 (fun _ => True)) v0) ∧ (0 ≤ v3) ∧ (1 ≤ v3)
def Zyt : Zwp → M6
 | .L0 v0 v3 => (1, ((v0.length : Int) - v3).toNat, 1000000, 0, 0, 0)
theorem Zahz (v0 : (List Int)) (v3 : Int) (h : ((SzL 8 (fun _ => True)) v0) ∧ (0 ≤ v3) ∧ (1 ≤ v3)) : Tot (Z41 v0 v3).den (Nx Zaeq Zyt (1, ((v0.length : Int) - v3).toNat, 1000000, 0, 0, 0) (fun r => True)) := by
 obtain ⟨ov0, cv3, i0⟩ := h
 have lb_v0 : v0.length * 8 ≤ 140737488351232 := ov0.1
 dsimp only [Z41, LT.den]
 have q1 : v0.length * 8 ≤ 140737488351232 := ov0.1
 refine tD (fun h2 => ?_) (fun h2 => ?_)
 ·have q3 : -9223372036854775808 ≤ (v3 - 1) → (v3 - 1) < 9223372036854775808 → IntKind.wrap .i64 (v3 - 1) = (v3 - 1) := Zao _
  have q4 : -9223372036854775808 ≤ IntKind.wrap .i64 (v3 - 1) ∧ IntKind.wrap .i64 (v3 - 1) < 9223372036854775808 := Zap _
  refine tB (tI (by omega) (by omega)) (fun x5 h6 => ?_)
  refine tB (tI (by omega) (by omega)) (fun x7 h8 => ?_)
  refine tD (fun h9 => ?_) (fun h9 => ?_)
  ·exact tR trivial
  ·have q10 : -9223372036854775808 ≤ (v3 + 1) → (v3 + 1) < 9223372036854775808 → IntKind.wrap .i64 (v3 + 1) = (v3 + 1) := Zao _
   have q11 : -9223372036854775808 ≤ IntKind.wrap .i64 (v3 + 1) ∧ IntKind.wrap .i64 (v3 + 1) < 9223372036854775808 := Zap _
   exact tL ⟨ov0, cl, cl⟩ (by unfold Zyt lt6; dsimp only; omega)
 ·exact tR trivial
theorem Zapt (a0 : (List Int)) (oa0 : (SzL 8 (fun _ => True)) a0) : Tot (Zaln a0) (fun r => True) := by
 unfold Zaln
 refine tX (Inv := Zaeq) (μ := Zyt) (m := (1000000, 0, 0, 0, 0, 0)) ?_ ?_
 ·have lb_a0 : a0.length * 8 ≤ 140737488351232 := oa0.1
  dsimp only [Zall, LT.den]
  exact tL ⟨oa0, cl, cl⟩ (by unfold Zyt lt6; dsimp only; omega)
 ·intro s hs
  cases s with
  | L0 v0 v3 => exact Zahz v0 v3 hs
def Zkx : Zh5 → Prop
 | .L0 E0 v3 => (Zw E0) ∧ (0 ≤ v3)
 | .L1 E0 v3 v4 => (Zw E0) ∧ (0 ≤ v4) ∧ (0 ≤ v3) ∧ (v3 < (E0.Stack.length : Int))
 | .L2 E0 v5 => (Zw E0) ∧ (0 ≤ v5)
 | .L3 E0 v7 => (Zw E0) ∧ (0 ≤ v7)
def Zd1 : Zh5 → M6
 | .L0 E0 v3 => (5, ((E0.Stack.length : Int) - v3).toNat, 1000000, 0, 0, 0)
 | .L1 E0 v3 v4 => (5, ((E0.Stack.length : Int) - v3).toNat, 1, (v3 - v4).toNat, 1000000, 0)
 | .L2 E0 v5 => (3, ((E0.Waiting.length : Int) - v5).toNat, 1000000, 0, 0, 0)
 | .L3 E0 v7 => (1, ((E0.Conts.length : Int) - v7).toNat, 1000000, 0, 0, 0)
theorem Zaaw (E0 : Za) (v3 : Int) (h : (Zw E0) ∧ (0 ≤ v3)) : Tot (Zwq E0 v3).den (Nx Zkx Zd1 (5, ((E0.Stack.length : Int) - v3).toNat, 1000000, 0, 0, 0) (fun r => True)) := by
 obtain ⟨ob30000000, cv3⟩ := h
 dsimp only [Zwq, LT.den]
 have q1 : E0.Stack.length * 824 ≤ 140737488351232 := ob30000000.2.2.2.2.1.1
 refine tD (fun h2 => ?_) (fun h2 => ?_)
 ·refine tB (tI (by omega) (by omega)) (fun x3 h4 => ?_)
  have oh4 : Zfx x3 := ob30000000.2.2.2.2.1.2 x3 h4.1
  refine tB (Zamm E0 x3 ob30000000 oh4) (fun x5 h6 => ?_)
  refine tO (fun h7 => ?_) (fun h7 => ?_)
  ·exact tR trivial
  ·exact tL ⟨ob30000000, cl, cl, cl⟩ (by unfold Zd1 lt6; dsimp only; omega)
 ·exact tL ⟨ob30000000, cl⟩ (by unfold Zd1 lt6; dsimp only; omega)
theorem Zaax (E0 : Za) (v3 : Int) (v4 : Int) (h : (Zw E0) ∧ (0 ≤ v4) ∧ (0 ≤ v3) ∧ (v3 < (E0.Stack.length : Int))) : Tot (Zwr E0 v3 v4).den (Nx Zkx Zd1 (5, ((E0.Stack.length : Int) - v3).toNat, 1, (v3 - v4).toNat, 1000000, 0) (fun r => True)) := by
 obtain ⟨ob30000000, cv4, cv3, bd3⟩ := h
 dsimp only [Zwr, LT.den]
 have lx_0 : E0.Stack.length * 824 ≤ 140737488351232 := ob30000000.2.2.2.2.1.1
 refine tD (fun h1 => ?_) (fun h1 => ?_)
 ·refine tB (tI (by omega) (by omega)) (fun x2 h3 => ?_)
  have oh3 : Zfx x2 := ob30000000.2.2.2.2.1.2 x2 h3.1
  refine tB (tI (by omega) (by omega)) (fun x4 h5 => ?_)
  have oh5 : Zfx x4 := ob30000000.2.2.2.2.1.2 x4 h5.1
  refine tE (fun h6 => ?_) (fun h6 => ?_)
  ·exact tR trivial
  ·have q7 : -9223372036854775808 ≤ (v4 + 1) → (v4 + 1) < 9223372036854775808 → IntKind.wrap .i64 (v4 + 1) = (v4 + 1) := Zao _
   have q8 : -9223372036854775808 ≤ IntKind.wrap .i64 (v4 + 1) ∧ IntKind.wrap .i64 (v4 + 1) < 9223372036854775808 := Zap _
   exact tL ⟨ob30000000, cl, cl, cl⟩ (by unfold Zd1 lt6; dsimp only; omega)
 ·have q9 : -9223372036854775808 ≤ (v3 + 1) → (v3 + 1) < 9223372036854775808 → IntKind.wrap .i64 (v3 + 1) = (v3 + 1) := Zao _
  have q10 : -9223372036854775808 ≤ IntKind.wrap .i64 (v3 + 1) ∧ IntKind.wrap .i64 (v3 + 1) < 9223372036854775808 := Zap _
  exact tL ⟨ob30000000, cl⟩ (by unfold Zd1 lt6; dsimp only; omega)
theorem Zaay (E0 : Za) (v5 : Int) (h : (Zw E0) ∧ (0 ≤ v5)) : Tot (Zws E0 v5).den (Nx Zkx Zd1 (3, ((E0.Waiting.length : Int) - v5).toNat, 1000000, 0, 0, 0) (fun r => True)) := by
 obtain ⟨ob30000000, cv5⟩ := h
 dsimp only [Zws, LT.den]
 have q1 : E0.Waiting.length * 768 ≤ 140737488351232 := ob30000000.2.2.2.2.2.1.1
 refine tD (fun h2 => ?_) (fun h2 => ?_)
 ·refine tB (tI (by omega) (by omega)) (fun x3 h4 => ?_)
  have oh4 : Zhb x3 := ob30000000.2.2.2.2.2.1.2 x3 h4.1
  refine tB (Zhc E0 x3.Control ob30000000) (fun x5 h6 => ?_)
  refine tO (fun h7 => ?_) (fun h7 => ?_)
  ·exact tR trivial
  ·refine tN (fun h8 => ?_) (fun h8 => ?_)
   ·exact tR trivial
   ·refine tB (Zvd x3.Ability oh4) (fun x9 h10 => ?_)
    refine tO (fun h11 => ?_) (fun h11 => ?_)
    ·exact tR trivial
    ·have q12 : -9223372036854775808 ≤ (v5 + 1) → (v5 + 1) < 9223372036854775808 → IntKind.wrap .i64 (v5 + 1) = (v5 + 1) := Zao _
     have q13 : -9223372036854775808 ≤ IntKind.wrap .i64 (v5 + 1) ∧ IntKind.wrap .i64 (v5 + 1) < 9223372036854775808 := Zap _
     exact tL ⟨ob30000000, cl⟩ (by unfold Zd1 lt6; dsimp only; omega)
 ·exact tL ⟨ob30000000, cl⟩ (by unfold Zd1 lt6; dsimp only; omega)
theorem Zaaz (E0 : Za) (v7 : Int) (h : (Zw E0) ∧ (0 ≤ v7)) : Tot (Zwt E0 v7).den (Nx Zkx Zd1 (1, ((E0.Conts.length : Int) - v7).toNat, 1000000, 0, 0, 0) (fun r => True)) := by
 obtain ⟨ob30000000, cv7⟩ := h
 dsimp only [Zwt, LT.den]
 have q1 : E0.Conts.length * 80 ≤ 140737488351232 := ob30000000.2.2.2.2.2.2.1.1
 refine tD (fun h2 => ?_) (fun h2 => ?_)
 ·refine tB (tI (by omega) (by omega)) (fun x3 h4 => ?_)
  have oh4 : Zi1 x3 := ob30000000.2.2.2.2.2.2.1.2 x3 h4.1
  refine tB (Zhc E0 x3.Control ob30000000) (fun x5 h6 => ?_)
  refine tO (fun h7 => ?_) (fun h7 => ?_)
  ·exact tR trivial
  ·refine tD (fun h8 => ?_) (fun h8 => ?_)
   ·exact tR trivial
   ·refine tB (Zex x3.Until 1 2) (fun x9 h10 => ?_)
    refine tO (fun h11 => ?_) (fun h11 => ?_)
    ·exact tR trivial
    ·refine tB (Zapt x3.Objects oh4.1) (fun x12 h13 => ?_)
     refine tO (fun h14 => ?_) (fun h14 => ?_)
     ·exact tR trivial
     ·refine tB (Zpb x3.Mods oh4.2) (fun x15 h16 => ?_)
      replace h16 : (x15.length ≤ 4611686018427387904) := h16
      have eh16_0 := h16
      try simp only [List.length_nil, List.length_cons, Nat.zero_add] at eh16_0
      refine tF (fun h17 => ?_) (fun h17 => ?_)
      ·exact tR trivial
      ·have q18 : -9223372036854775808 ≤ (v7 + 1) → (v7 + 1) < 9223372036854775808 → IntKind.wrap .i64 (v7 + 1) = (v7 + 1) := Zao _
       have q19 : -9223372036854775808 ≤ IntKind.wrap .i64 (v7 + 1) ∧ IntKind.wrap .i64 (v7 + 1) < 9223372036854775808 := Zap _
       exact tL ⟨ob30000000, cl⟩ (by unfold Zd1 lt6; dsimp only; omega)
 ·exact tR trivial
theorem Zow (a0 : Za) (oa0 : Zw a0) : Tot (Zx9 a0) (fun r => True) := by
 unfold Zx9
 refine tX (Inv := Zkx) (μ := Zd1) (m := (1000000, 0, 0, 0, 0, 0)) ?_ ?_
 ·dsimp only [Z8d, LT.den]
  have q1 : a0.Stack.length * 824 ≤ 140737488351232 := oa0.2.2.2.2.1.1
  refine tD (fun h2 => ?_) (fun h2 => ?_)
  ·exact tR trivial
  ·have q3 : a0.Waiting.length * 768 ≤ 140737488351232 := oa0.2.2.2.2.2.1.1
   refine tD (fun h4 => ?_) (fun h4 => ?_)
   ·exact tR trivial
   ·have q5 : a0.Conts.length * 80 ≤ 140737488351232 := oa0.2.2.2.2.2.2.1.1
    refine tD (fun h6 => ?_) (fun h6 => ?_)
    ·exact tR trivial
    ·exact tL ⟨oa0, cl⟩ (by unfold Zd1 lt6; dsimp only; omega)
 ·intro s hs
  cases s with
  | L0 E0 v3 => exact Zaaw E0 v3 hs
  | L1 E0 v3 v4 => exact Zaax E0 v3 v4 hs
  | L2 E0 v5 => exact Zaay E0 v5 hs
  | L3 E0 v7 => exact Zaaz E0 v7 hs
def Zaer : Zo6 → Prop
 | .L0 v0 E0 v5 => ((SzL 176 Zai) v0) ∧ (Zw E0) ∧ (0 ≤ v5)
def Zyu : Zo6 → M6
 | .L0 v0 E0 v5 => (1, ((E0.Extra.length : Int) - v5).toNat, 1000000, 0, 0, 0)
theorem Zah0 (v0 : (List Zs)) (E0 : Za) (v5 : Int) (h : ((SzL 176 Zai) v0) ∧ (Zw E0) ∧ (0 ≤ v5)) : Tot (Zs2 v0 E0 v5).den (Nx Zaer Zyu (1, ((E0.Extra.length : Int) - v5).toNat, 1000000, 0, 0, 0) (fun r => True)) := by
 obtain ⟨ov0, ob30000000, cv5⟩ := h
 have lb_v0 : v0.length * 176 ≤ 140737488351232 := ov0.1
 dsimp only [Zs2, LT.den]
 have q1 : E0.Extra.length * 8 ≤ 140737488351232 := ob30000000.2.2.2.2.2.2.2.1
 refine tD (fun h2 => ?_) (fun h2 => ?_)
 ·refine tB (tI (by omega) (by omega)) (fun x3 h4 => ?_)
  refine tB (Zhc E0 x3 ob30000000) (fun x5 h6 => ?_)
  refine tO (fun h7 => ?_) (fun h7 => ?_)
  ·exact tR trivial
  ·have q8 : -9223372036854775808 ≤ (v5 + 1) → (v5 + 1) < 9223372036854775808 → IntKind.wrap .i64 (v5 + 1) = (v5 + 1) := Zao _
   have q9 : -9223372036854775808 ≤ IntKind.wrap .i64 (v5 + 1) ∧ IntKind.wrap .i64 (v5 + 1) < 9223372036854775808 := Zap _
   exact tL ⟨ov0, ob30000000, cl⟩ (by unfold Zyu lt6; dsimp only; omega)
 ·refine tE (fun h10 => ?_) (fun h10 => ?_)
  ·refine tB (Zhc E0 E0.Winner ob30000000) (fun x11 h12 => ?_)
   refine tO (fun h13 => ?_) (fun h13 => ?_)
   ·exact tR trivial
   ·refine tN (fun h14 => ?_) (fun h14 => ?_)
    ·refine tN (fun h15 => ?_) (fun h15 => ?_)
     ·exact tR trivial
     ·refine tB (Zlh v0 E0 ov0 ob30000000) (fun x16 h17 => ?_)
      refine tF (fun h18 => ?_) (fun h18 => ?_)
      ·refine tB (Zow E0 ob30000000) (fun x19 h20 => ?_)
       exact tR trivial
      ·exact tR trivial
    ·refine tB (Zlh v0 E0 ov0 ob30000000) (fun x21 h22 => ?_)
     refine tF (fun h23 => ?_) (fun h23 => ?_)
     ·refine tB (Zow E0 ob30000000) (fun x24 h25 => ?_)
      exact tR trivial
     ·exact tR trivial
  ·refine tN (fun h26 => ?_) (fun h26 => ?_)
   ·refine tN (fun h27 => ?_) (fun h27 => ?_)
    ·exact tR trivial
    ·refine tB (Zlh v0 E0 ov0 ob30000000) (fun x28 h29 => ?_)
     refine tF (fun h30 => ?_) (fun h30 => ?_)
     ·refine tB (Zow E0 ob30000000) (fun x31 h32 => ?_)
      exact tR trivial
     ·exact tR trivial
   ·refine tB (Zlh v0 E0 ov0 ob30000000) (fun x33 h34 => ?_)
    refine tF (fun h35 => ?_) (fun h35 => ?_)
    ·refine tB (Zow E0 ob30000000) (fun x36 h37 => ?_)
     exact tR trivial
    ·exact tR trivial
theorem Zapu (a0 : (List Zs)) (a1 : Za) (oa0 : (SzL 176 Zai) a0) (oa1 : Zw a1) : Tot (Zwu a0 a1) (fun r => True) := by
 unfold Zwu
 refine tX (Inv := Zaer) (μ := Zyu) (m := (1000000, 0, 0, 0, 0, 0)) ?_ ?_
 ·have lb_a0 : a0.length * 176 ≤ 140737488351232 := oa0.1
  dsimp only [Z93, LT.den]
  refine tB (Zex a1.NextId 1 1000000) (fun x1 h2 => ?_)
  refine tO (fun h3 => ?_) (fun h3 => ?_)
  ·exact tR trivial
  ·refine tB (Zex a1.NextStamp 1 1000000) (fun x4 h5 => ?_)
   refine tO (fun h6 => ?_) (fun h6 => ?_)
   ·exact tR trivial
   ·refine tB (Zex a1.Turn 0 500) (fun x7 h8 => ?_)
    refine tO (fun h9 => ?_) (fun h9 => ?_)
    ·exact tR trivial
    ·refine tB (Zex a1.Step 0 10) (fun x10 h11 => ?_)
     refine tO (fun h12 => ?_) (fun h12 => ?_)
     ·exact tR trivial
     ·have q13 : a1.Objects.length * 128 ≤ 140737488351232 := oa1.2.1.1
      refine tD (fun h14 => ?_) (fun h14 => ?_)
      ·exact tR trivial
      ·refine tB (Zaen a1 oa1) (fun x15 h16 => ?_)
       refine tO (fun h17 => ?_) (fun h17 => ?_)
       ·exact tR trivial
       ·refine tB (Zhc a1 a1.Active oa1) (fun x18 h19 => ?_)
        refine tO (fun h20 => ?_) (fun h20 => ?_)
        ·exact tR trivial
        ·refine tB (Zhc a1 a1.Priority oa1) (fun x21 h22 => ?_)
         refine tO (fun h23 => ?_) (fun h23 => ?_)
         ·exact tR trivial
         ·have q24 : a1.Players.length * 152 ≤ 140737488351232 := oa1.1.1
          refine tB (Zex a1.Passes 0 (a1.Players.length : Int)) (fun x25 h26 => ?_)
          refine tO (fun h27 => ?_) (fun h27 => ?_)
          ·exact tR trivial
          ·have q28 : a1.Extra.length * 8 ≤ 140737488351232 := oa1.2.2.2.2.2.2.2.1
           refine tD (fun h29 => ?_) (fun h29 => ?_)
           ·exact tR trivial
           ·refine tB (Zex a1.Over 0 2) (fun x30 h31 => ?_)
            refine tO (fun h32 => ?_) (fun h32 => ?_)
            ·exact tR trivial
            ·exact tL ⟨oa0, oa1, cl⟩ (by unfold Zyu lt6; dsimp only; omega)
 ·intro s hs
  cases s with
  | L0 v0 E0 v5 => exact Zah0 v0 E0 v5 hs
def Z3e : Zn4 → Prop
 | .L0 v0 E0 v5 => ((SzL 176 Zai) v0) ∧ (Zw E0) ∧ (0 ≤ v5)
def Zq3 : Zn4 → M6
 | .L0 v0 E0 v5 => (1, ((E0.Players.length : Int) - v5).toNat, 1000000, 0, 0, 0)
theorem Zaa0 (v0 : (List Zs)) (E0 : Za) (v5 : Int) (h : ((SzL 176 Zai) v0) ∧ (Zw E0) ∧ (0 ≤ v5)) : Tot (Zl2 v0 E0 v5).den (Nx Z3e Zq3 (1, ((E0.Players.length : Int) - v5).toNat, 1000000, 0, 0, 0) (fun r => True)) := by
 obtain ⟨ov0, ob30000000, cv5⟩ := h
 have lb_v0 : v0.length * 176 ≤ 140737488351232 := ov0.1
 dsimp only [Zl2, LT.den]
 have q1 : E0.Players.length * 152 ≤ 140737488351232 := ob30000000.1.1
 refine tD (fun h2 => ?_) (fun h2 => ?_)
 ·refine tB (tI (by omega) (by omega)) (fun x3 h4 => ?_)
  have oh4 : Zf0 x3 := ob30000000.1.2 x3 h4.1
  have q5 : x3.Library.length * 8 ≤ 140737488351232 := oh4.1.1
  have q6 : x3.Hand.length * 8 ≤ 140737488351232 := oh4.2.1.1
  have q7 : -9223372036854775808 ≤ ((x3.Library.length : Int) + (x3.Hand.length : Int)) → ((x3.Library.length : Int) + (x3.Hand.length : Int)) < 9223372036854775808 → IntKind.wrap .i64 ((x3.Library.length : Int) + (x3.Hand.length : Int)) = ((x3.Library.length : Int) + (x3.Hand.length : Int)) := Zao _
  have q8 : -9223372036854775808 ≤ IntKind.wrap .i64 ((x3.Library.length : Int) + (x3.Hand.length : Int)) ∧ IntKind.wrap .i64 ((x3.Library.length : Int) + (x3.Hand.length : Int)) < 9223372036854775808 := Zap _
  have q9 : x3.Graveyard.length * 8 ≤ 140737488351232 := oh4.2.2.1
  have q10 : -9223372036854775808 ≤ ((IntKind.wrap .i64 ((x3.Library.length : Int) + (x3.Hand.length : Int))) + (x3.Graveyard.length : Int)) → ((IntKind.wrap .i64 ((x3.Library.length : Int) + (x3.Hand.length : Int))) + (x3.Graveyard.length : Int)) < 9223372036854775808 → IntKind.wrap .i64 ((IntKind.wrap .i64 ((x3.Library.length : Int) + (x3.Hand.length : Int))) + (x3.Graveyard.length : Int)) = ((IntKind.wrap .i64 ((x3.Library.length : Int) + (x3.Hand.length : Int))) + (x3.Graveyard.length : Int)) := Zao _
  have q11 : -9223372036854775808 ≤ IntKind.wrap .i64 ((IntKind.wrap .i64 ((x3.Library.length : Int) + (x3.Hand.length : Int))) + (x3.Graveyard.length : Int)) ∧ IntKind.wrap .i64 ((IntKind.wrap .i64 ((x3.Library.length : Int) + (x3.Hand.length : Int))) + (x3.Graveyard.length : Int)) < 9223372036854775808 := Zap _
  refine tD (fun h12 => ?_) (fun h12 => ?_)
  ·exact tR trivial
  ·have q13 : -9223372036854775808 ≤ (v5 + 1) → (v5 + 1) < 9223372036854775808 → IntKind.wrap .i64 (v5 + 1) = (v5 + 1) := Zao _
   have q14 : -9223372036854775808 ≤ IntKind.wrap .i64 (v5 + 1) ∧ IntKind.wrap .i64 (v5 + 1) < 9223372036854775808 := Zap _
   exact tL ⟨ov0, ob30000000, cl⟩ (by unfold Zq3 lt6; dsimp only; omega)
 ·refine tB (Zahu v0 ov0) (fun x15 h16 => ?_)
  refine tE (fun h17 => ?_) (fun h17 => ?_)
  ·refine tB (Zapu v0 E0 ov0 ob30000000) (fun x18 h19 => ?_)
   exact tR trivial
  ·exact tR trivial
theorem Zah1 (a0 : (List Zs)) (a1 : Za) (oa0 : (SzL 176 Zai) a0) (oa1 : Zw a1) : Tot (Zya a0 a1) (fun r => True) := by
 unfold Zya
 refine tX (Inv := Z3e) (μ := Zq3) (m := (1000000, 0, 0, 0, 0, 0)) ?_ ?_
 ·have lb_a0 : a0.length * 176 ≤ 140737488351232 := oa0.1
  dsimp only [Zzq, LT.den]
  have q1 : a0.length * 176 ≤ 140737488351232 := oa0.1
  refine tD (fun h2 => ?_) (fun h2 => ?_)
  ·exact tR trivial
  ·have q3 : a1.Players.length * 152 ≤ 140737488351232 := oa1.1.1
   refine tD (fun h4 => ?_) (fun h4 => ?_)
   ·exact tR trivial
   ·have q5 : a1.Objects.length * 128 ≤ 140737488351232 := oa1.2.1.1
    refine tD (fun h6 => ?_) (fun h6 => ?_)
    ·exact tR trivial
    ·have q7 : a1.Battlefield.length * 8 ≤ 140737488351232 := oa1.2.2.1.1
     refine tD (fun h8 => ?_) (fun h8 => ?_)
     ·exact tR trivial
     ·have q9 : a1.Exile.length * 8 ≤ 140737488351232 := oa1.2.2.2.1.1
      refine tD (fun h10 => ?_) (fun h10 => ?_)
      ·exact tR trivial
      ·have q11 : a1.Stack.length * 824 ≤ 140737488351232 := oa1.2.2.2.2.1.1
       refine tD (fun h12 => ?_) (fun h12 => ?_)
       ·exact tR trivial
       ·have q13 : a1.Waiting.length * 768 ≤ 140737488351232 := oa1.2.2.2.2.2.1.1
        refine tD (fun h14 => ?_) (fun h14 => ?_)
        ·exact tR trivial
        ·have q15 : a1.Conts.length * 80 ≤ 140737488351232 := oa1.2.2.2.2.2.2.1.1
         refine tD (fun h16 => ?_) (fun h16 => ?_)
         ·exact tR trivial
         ·have q17 : a1.Extra.length * 8 ≤ 140737488351232 := oa1.2.2.2.2.2.2.2.1
          refine tD (fun h18 => ?_) (fun h18 => ?_)
          ·exact tR trivial
          ·exact tL ⟨oa0, oa1, cl⟩ (by unfold Zq3 lt6; dsimp only; omega)
 ·intro s hs
  cases s with
  | L0 v0 E0 v5 => exact Zaa0 v0 E0 v5 hs
theorem Zan0 (a0 : Z0) (oa0 : Zfy a0) : Tot (Z0u a0) (fun r => True) := by
 unfold Z0u
 refine tZ ?_
 dsimp only [Z42, LT.den]
 refine tB (Zah1 a0.Cards a0.State oa0.1 oa0.2.1) (fun x1 h2 => ?_)
 refine tF (fun h3 => ?_) (fun h3 => ?_)
 ·have q4 : a0.Pending.Options.length * 24 ≤ 140737488351232 := oa0.2.2.2.1.1
  exact tR trivial
 ·exact tR trivial
end Go.PW
