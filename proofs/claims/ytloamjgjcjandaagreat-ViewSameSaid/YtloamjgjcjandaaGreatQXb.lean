import Derived.Test.YtloamjgjcjandaaGreatQX
set_option linter.all false
set_option maxRecDepth 100000
namespace Go.PW
def Zxv : Zkd → Prop
 | .L0 E0 v3 => (Zz E0) ∧ (0 ≤ v3)
def Zmt : Zkd → M6
 | .L0 E0 v3 => (1, ((E0.Players.length : Int) - v3).toNat, 1000000, 0, 0, 0)
theorem Z5e (E0 : Za) (v3 : Int) (h : (Zz E0) ∧ (0 ≤ v3)) : Tot (Zqu E0 v3).den (Nx Zxv Zmt (1, ((E0.Players.length : Int) - v3).toNat, 1000000, 0, 0, 0) (fun r => True)) := by
 obtain ⟨ob30000000, cv3⟩ := h
 dsimp only [Zqu, LT.den]
 have q1 : E0.Players.length * 152 ≤ 140737488351232 := ob30000000.1.1
 refine tD (fun h2 => ?_) (fun h2 => ?_)
 ·refine tB (tI (by omega) (by omega)) (fun x3 h4 => ?_)
  have oh4 : Zf0 x3 := ob30000000.1.2 x3 h4.1
  refine tB (Zex x3.Life (-1000000) 1000000) (fun x5 h6 => ?_)
  refine tO (fun h7 => ?_) (fun h7 => ?_)
  ·exact tR trivial
  ·refine tB (Zex x3.Venom 0 1000000) (fun x8 h9 => ?_)
   refine tO (fun h10 => ?_) (fun h10 => ?_)
   ·exact tR trivial
   ·refine tB (Zex x3.Lands 0 1000000) (fun x11 h12 => ?_)
    refine tO (fun h13 => ?_) (fun h13 => ?_)
    ·exact tR trivial
    ·refine tB (Zahh x3.Pool) (fun x14 h15 => ?_)
     refine tO (fun h16 => ?_) (fun h16 => ?_)
     ·exact tR trivial
     ·refine tB (Zl4 E0 x3.Library 2 v3 ob30000000 oh4.1) (fun x17 h18 => ?_)
      refine tO (fun h19 => ?_) (fun h19 => ?_)
      ·exact tR trivial
      ·refine tB (Zl4 E0 x3.Hand 1 v3 ob30000000 oh4.2.1) (fun x20 h21 => ?_)
       refine tO (fun h22 => ?_) (fun h22 => ?_)
       ·exact tR trivial
       ·refine tB (Zl4 E0 x3.Graveyard 3 v3 ob30000000 oh4.2.2) (fun x23 h24 => ?_)
        refine tO (fun h25 => ?_) (fun h25 => ?_)
        ·exact tR trivial
        ·have q26 : -9223372036854775808 ≤ (v3 + 1) → (v3 + 1) < 9223372036854775808 → IntKind.wrap .i64 (v3 + 1) = (v3 + 1) := Zao _
         have q27 : -9223372036854775808 ≤ IntKind.wrap .i64 (v3 + 1) ∧ IntKind.wrap .i64 (v3 + 1) < 9223372036854775808 := Zap _
         exact tL ⟨ob30000000, cl⟩ (by unfold Zmt lt6; dsimp only; omega)
 ·refine tB (Zl4 E0 E0.Battlefield 0 (-1) ob30000000 ob30000000.2.2.1) (fun x28 h29 => ?_)
  refine tF (fun h30 => ?_) (fun h30 => ?_)
  ·refine tB (Zl4 E0 E0.Exile 4 (-1) ob30000000 ob30000000.2.2.2.1) (fun x31 h32 => ?_)
   exact tR trivial
  ·exact tR trivial
theorem Zad4 (a0 : Za) (oa0 : Zz a0) : Tot (Zyr a0) (fun r => True) := by
 unfold Zyr
 refine tX (Inv := Zxv) (μ := Zmt) (m := (1000000, 0, 0, 0, 0, 0)) ?_ ?_
 ·dsimp only [Z1v, LT.den]
  have q1 : a0.Players.length * 152 ≤ 140737488351232 := oa0.1.1
  refine tB (Zex (a0.Players.length : Int) 2 4) (fun x2 h3 => ?_)
  refine tO (fun h4 => ?_) (fun h4 => ?_)
  ·exact tR trivial
  ·exact tL ⟨oa0, cl⟩ (by unfold Zmt lt6; dsimp only; omega)
 ·intro s hs
  cases s with
  | L0 E0 v3 => exact Z5e E0 v3 hs
theorem Zg7 (a0 : Za) (a1 : Int) (oa0 : Zz a0) : Tot (Z0x a0 a1) (fun r => True) := by
 unfold Z0x
 refine tZ ?_
 dsimp only [Z35, LT.den]
 have q1 : a0.Players.length * 152 ≤ 140737488351232 := oa0.1.1
 have q2 : -9223372036854775808 ≤ ((a0.Players.length : Int) - 1) → ((a0.Players.length : Int) - 1) < 9223372036854775808 → IntKind.wrap .i64 ((a0.Players.length : Int) - 1) = ((a0.Players.length : Int) - 1) := Zao _
 have q3 : -9223372036854775808 ≤ IntKind.wrap .i64 ((a0.Players.length : Int) - 1) ∧ IntKind.wrap .i64 ((a0.Players.length : Int) - 1) < 9223372036854775808 := Zap _
 refine tB (Zex a1 0 (IntKind.wrap .i64 ((a0.Players.length : Int) - 1))) (fun x4 h5 => ?_)
 exact tR trivial
def Zad5 : Zvs → Prop
 | .L0 E0 v3 => (0 ≤ v3) ∧ True
def Zxw : Zvs → M6
 | .L0 E0 v3 => (1, (3 - v3).toNat, 1000000, 0, 0, 0)
theorem Zahj (E0 : (A3 Int)) (v3 : Int) (h : (0 ≤ v3) ∧ True) : Tot (Z37 E0 v3).den (Nx Zad5 Zxw (1, (3 - v3).toNat, 1000000, 0, 0, 0) (fun r => True)) := by
 obtain ⟨cv3, _⟩ := h
 dsimp only [Z37, LT.den]
 refine tD (fun h1 => ?_) (fun h1 => ?_)
 ·refine tB (tI (by omega) (by have e : (A3.list E0).length = 3 := rfl; omega)) (fun x2 h3 => ?_)
  refine tD (fun h4 => ?_) (fun h4 => ?_)
  ·exact tR trivial
  ·refine tB (tI (by omega) (by have e : (A3.list E0).length = 3 := rfl; omega)) (fun x5 h6 => ?_)
   refine tD (fun h7 => ?_) (fun h7 => ?_)
   ·exact tR trivial
   ·have q8 : -9223372036854775808 ≤ (v3 + 1) → (v3 + 1) < 9223372036854775808 → IntKind.wrap .i64 (v3 + 1) = (v3 + 1) := Zao _
    have q9 : -9223372036854775808 ≤ IntKind.wrap .i64 (v3 + 1) ∧ IntKind.wrap .i64 (v3 + 1) < 9223372036854775808 := Zap _
    exact tL ⟨cl, trivial⟩ (by unfold Zxw lt6; dsimp only; omega)
 ·exact tR trivial
theorem Zao5 (a0 : (A3 Int)) : Tot (Zakn a0) (fun r => True) := by
 unfold Zakn
 refine tX (Inv := Zad5) (μ := Zxw) (m := (1000000, 0, 0, 0, 0, 0)) ?_ ?_
 ·dsimp only [Zakl, LT.den]
  exact tL ⟨cl, trivial⟩ (by unfold Zxw lt6; dsimp only; omega)
 ·intro s hs
  cases s with
  | L0 E0 v3 => exact Zahj E0 v3 hs
theorem Zals (a0 : Zm) : Tot (Z9k a0) (fun r => True) := by
 unfold Z9k
 refine tZ ?_
 dsimp only [Zacm, LT.den]
 exact tR trivial
theorem Zahk (a0 : Zm) : Tot (Z38 a0) (fun r => True) := by
 unfold Z38
 refine tZ ?_
 dsimp only [Z7s, LT.den]
 exact tR trivial
theorem Zao6 (a0 : Zm) (a1 : Int) (a2 : Int) : Tot (Zakr a0 a1 a2) (fun r => True) := by
 unfold Zakr
 refine tZ ?_
 dsimp only [Zakp, LT.den]
 refine tD (fun h1 => ?_) (fun h1 => ?_)
 ·exact tR trivial
 ·refine tD (fun h2 => ?_) (fun h2 => ?_)
  ·exact tR trivial
  ·refine tD (fun h3 => ?_) (fun h3 => ?_)
   ·exact tR trivial
   ·refine tD (fun h4 => ?_) (fun h4 => ?_)
    ·exact tR trivial
    ·refine tD (fun h5 => ?_) (fun h5 => ?_)
     ·exact tR trivial
     ·refine tD (fun h6 => ?_) (fun h6 => ?_)
      ·exact tR trivial
      ·refine tD (fun h7 => ?_) (fun h7 => ?_)
       ·exact tR trivial
       ·refine tD (fun h8 => ?_) (fun h8 => ?_)
        ·exact tR trivial
        ·refine tD (fun h9 => ?_) (fun h9 => ?_)
         ·exact tR trivial
         ·refine tD (fun h10 => ?_) (fun h10 => ?_)
          ·exact tR trivial
          ·refine tD (fun h11 => ?_) (fun h11 => ?_)
           ·exact tR trivial
           ·refine tD (fun h12 => ?_) (fun h12 => ?_)
            ·exact tR trivial
            ·refine tD (fun h13 => ?_) (fun h13 => ?_)
             ·exact tR trivial
             ·refine tD (fun h14 => ?_) (fun h14 => ?_)
              ·exact tR trivial
              ·refine tD (fun h15 => ?_) (fun h15 => ?_)
               ·exact tR trivial
               ·refine tD (fun h16 => ?_) (fun h16 => ?_)
                ·exact tR trivial
                ·refine tD (fun h17 => ?_) (fun h17 => ?_)
                 ·exact tR trivial
                 ·refine tB (Zao5 a0.Counters) (fun x18 h19 => ?_)
                  refine tO (fun h20 => ?_) (fun h20 => ?_)
                  ·exact tR trivial
                  ·refine tD (fun h21 => ?_) (fun h21 => ?_)
                   ·exact tR trivial
                   ·refine tD (fun h22 => ?_) (fun h22 => ?_)
                    ·exact tR trivial
                    ·refine tD (fun h23 => ?_) (fun h23 => ?_)
                     ·exact tR trivial
                     ·refine tD (fun h24 => ?_) (fun h24 => ?_)
                      ·exact tR trivial
                      ·refine tE (fun h25 => ?_) (fun h25 => ?_)
                       ·exact tR trivial
                       ·refine tB (Zals a0) (fun x26 h27 => ?_)
                        refine tF (fun h28 => ?_) (fun h28 => ?_)
                        ·refine tB (Zahk a0) (fun x29 h30 => ?_)
                         refine tF (fun h31 => ?_) (fun h31 => ?_)
                         ·refine tO (fun h32 => ?_) (fun h32 => ?_)
                          ·refine tO (fun h33 => ?_) (fun h33 => ?_)
                           ·exact tR trivial
                           ·exact tR trivial
                          ·exact tR trivial
                         ·exact tR trivial
                        ·exact tR trivial
def Z0c : Zli → Prop
 | .L0 v1 E0 v5 v6 => (Zz E0) ∧ (0 ≤ v6)
def Zih : Zli → M6
 | .L0 v1 E0 v5 v6 => (1, ((E0.Stack.length : Int) - v6).toNat, 1000000, 0, 0, 0)
theorem Z6g (v1 : Int) (E0 : Za) (v5 : Int) (v6 : Int) (h : (Zz E0) ∧ (0 ≤ v6)) : Tot (Zsx v1 E0 v5 v6).den (Nx Z0c Zih (1, ((E0.Stack.length : Int) - v6).toNat, 1000000, 0, 0, 0) (fun r => True)) := by
 obtain ⟨ob30000000, cv6⟩ := h
 dsimp only [Zsx, LT.den]
 have q1 : E0.Stack.length * 824 ≤ 140737488351232 := ob30000000.2.2.2.2.1.1
 refine tD (fun h2 => ?_) (fun h2 => ?_)
 ·refine tB (tI (by omega) (by omega)) (fun x3 h4 => ?_)
  have oh4 : Zfx x3 := ob30000000.2.2.2.2.1.2 x3 h4.1
  refine tE (fun h5 => ?_) (fun h5 => ?_)
  ·refine tE (fun h6 => ?_) (fun h6 => ?_)
   ·have q7 : -9223372036854775808 ≤ (v5 + 1) → (v5 + 1) < 9223372036854775808 → IntKind.wrap .i64 (v5 + 1) = (v5 + 1) := Zao _
    have q8 : -9223372036854775808 ≤ IntKind.wrap .i64 (v5 + 1) ∧ IntKind.wrap .i64 (v5 + 1) < 9223372036854775808 := Zap _
    have q9 : -9223372036854775808 ≤ (v6 + 1) → (v6 + 1) < 9223372036854775808 → IntKind.wrap .i64 (v6 + 1) = (v6 + 1) := Zao _
    have q10 : -9223372036854775808 ≤ IntKind.wrap .i64 (v6 + 1) ∧ IntKind.wrap .i64 (v6 + 1) < 9223372036854775808 := Zap _
    exact tL ⟨ob30000000, cl⟩ (by unfold Zih lt6; dsimp only; omega)
   ·have q11 : -9223372036854775808 ≤ (v6 + 1) → (v6 + 1) < 9223372036854775808 → IntKind.wrap .i64 (v6 + 1) = (v6 + 1) := Zao _
    have q12 : -9223372036854775808 ≤ IntKind.wrap .i64 (v6 + 1) ∧ IntKind.wrap .i64 (v6 + 1) < 9223372036854775808 := Zap _
    exact tL ⟨ob30000000, cl⟩ (by unfold Zih lt6; dsimp only; omega)
  ·have q13 : -9223372036854775808 ≤ (v6 + 1) → (v6 + 1) < 9223372036854775808 → IntKind.wrap .i64 (v6 + 1) = (v6 + 1) := Zao _
   have q14 : -9223372036854775808 ≤ IntKind.wrap .i64 (v6 + 1) ∧ IntKind.wrap .i64 (v6 + 1) < 9223372036854775808 := Zap _
   exact tL ⟨ob30000000, cl⟩ (by unfold Zih lt6; dsimp only; omega)
 ·exact tR trivial
theorem Zafo (a0 : Za) (a1 : Int) (oa0 : Zz a0) : Tot (Z0y a0 a1) (fun r => True) := by
 unfold Z0y
 refine tX (Inv := Z0c) (μ := Zih) (m := (1000000, 0, 0, 0, 0, 0)) ?_ ?_
 ·dsimp only [Z39, LT.den]
  exact tL ⟨oa0, cl⟩ (by unfold Zih lt6; dsimp only; omega)
 ·intro s hs
  cases s with
  | L0 v1 E0 v5 v6 => exact Z6g v1 E0 v5 v6 hs
theorem Zl5 (a0 : (List Int)) (oa0 : (SzL 8 (fun _ => True)) a0) : Tot (Zqv a0) (fun r => ((SzL 8 (fun _ => True)) r)) := by
 unfold Zqv
 refine tZ ?_
 have lb_a0 : a0.length * 8 ≤ 140737488351232 := oa0.1
 dsimp only [Z0z, LT.den]
 refine tB ((by have q3 : a0.length * 8 ≤ 140737488351232 := oa0.1;  exact tA (by first | omega | (simp only [List.length_cons, List.length_nil]; omega)) (by decide))) (fun x1 h2 => ?_)
 have lh2 : x1.length = ([] : (List Int)).length + a0.length := by rw [h2, List.length_append]
 try simp only [List.length_cons, List.length_nil, Nat.zero_add] at lh2
 exact tR ⟨by omega, fun _ _ => trivial⟩
theorem Zalt (a0 : Za) (a1 : Int) (a2 : Int) (oa0 : Zz a0) : Tot (Z00 a0 a1 a2) (fun r => ((SzL 8 (fun _ => True)) r)) := by
 unfold Z00
 refine tZ ?_
 dsimp only [Zacp, LT.den]
 refine tE (fun h1 => ?_) (fun h1 => ?_)
 ·refine tB (Zl5 a0.Battlefield oa0.2.2.1) (fun x2 h3 => ?_)
  replace h3 : ((SzL 8 (fun _ => True)) x2) := h3
  exact tR h3
 ·refine tE (fun h4 => ?_) (fun h4 => ?_)
  ·refine tB (Zl5 a0.Exile oa0.2.2.2.1) (fun x5 h6 => ?_)
   replace h6 : ((SzL 8 (fun _ => True)) x5) := h6
   exact tR h6
  ·refine tD (fun h7 => ?_) (fun h7 => ?_)
   ·exact tR SzL.nil
   ·have q8 : a0.Players.length * 152 ≤ 140737488351232 := oa0.1.1
    refine tD (fun h9 => ?_) (fun h9 => ?_)
    ·exact tR SzL.nil
    ·refine tE (fun h10 => ?_) (fun h10 => ?_)
     ·refine tB (tI (by omega) (by omega)) (fun x11 h12 => ?_)
      have oh12 : Zf0 x11 := oa0.1.2 x11 h12.1
      refine tB (Zl5 x11.Hand oh12.2.1) (fun x13 h14 => ?_)
      replace h14 : ((SzL 8 (fun _ => True)) x13) := h14
      exact tR h14
     ·refine tE (fun h15 => ?_) (fun h15 => ?_)
      ·refine tB (tI (by omega) (by omega)) (fun x16 h17 => ?_)
       have oh17 : Zf0 x16 := oa0.1.2 x16 h17.1
       refine tB (Zl5 x16.Library oh17.1) (fun x18 h19 => ?_)
       replace h19 : ((SzL 8 (fun _ => True)) x18) := h19
       exact tR h19
      ·refine tE (fun h20 => ?_) (fun h20 => ?_)
       ·refine tB (tI (by omega) (by omega)) (fun x21 h22 => ?_)
        have oh22 : Zf0 x21 := oa0.1.2 x21 h22.1
        refine tB (Zl5 x21.Graveyard oh22.2.2) (fun x23 h24 => ?_)
        replace h24 : ((SzL 8 (fun _ => True)) x23) := h24
        exact tR h24
       ·exact tR SzL.nil
theorem Z0d (a0 : Za) (a1 : Zm) (oa0 : Zz a0) : Tot (Z01 a0 a1) (fun r => True) := by
 unfold Z01
 refine tZ ?_
 dsimp only [Z4b, LT.den]
 refine tE (fun h1 => ?_) (fun h1 => ?_)
 ·refine tB (Zafo a0 a1.Id oa0) (fun x2 h3 => ?_)
  exact tR trivial
 ·refine tB (Zalt a0 a1.Zone a1.Owner oa0) (fun x4 h5 => ?_)
  replace h5 : ((SzL 8 (fun _ => True)) x4) := h5
  refine tB (Ztx x4 a1.Id h5) (fun x6 h7 => ?_)
  exact tR trivial
def Zxx : Zke → Prop
 | .L0 v0 E0 v5 => ((SzL 176 Zai) v0) ∧ (Zz E0) ∧ (0 ≤ v5)
def Zjb : Zke → M6
 | .L0 v0 E0 v5 => (1, ((E0.Objects.length : Int) - v5).toNat, 1000000, 0, 0, 0)
theorem Z5f (v0 : (List Zt)) (E0 : Za) (v5 : Int) (h : ((SzL 176 Zai) v0) ∧ (Zz E0) ∧ (0 ≤ v5)) : Tot (Zqw v0 E0 v5).den (Nx Zxx Zjb (1, ((E0.Objects.length : Int) - v5).toNat, 1000000, 0, 0, 0) (fun r => True)) := by
 obtain ⟨ov0, ob30000000, cv5⟩ := h
 have lb_v0 : v0.length * 176 ≤ 140737488351232 := ov0.1
 dsimp only [Zqw, LT.den]
 have q1 : E0.Objects.length * 128 ≤ 140737488351232 := ob30000000.2.1.1
 refine tD (fun h2 => ?_) (fun h2 => ?_)
 ·refine tB (tI (by omega) (by omega)) (fun x3 h4 => ?_)
  have q5 : v0.length * 176 ≤ 140737488351232 := ov0.1
  have q6 : E0.Players.length * 152 ≤ 140737488351232 := ob30000000.1.1
  refine tB (Zao6 x3 (v0.length : Int) (E0.Players.length : Int)) (fun x7 h8 => ?_)
  refine tO (fun h9 => ?_) (fun h9 => ?_)
  ·exact tR trivial
  ·refine tD (fun h10 => ?_) (fun h10 => ?_)
   ·exact tR trivial
   ·refine tD (fun h11 => ?_) (fun h11 => ?_)
    ·exact tR trivial
    ·refine tD (fun h12 => ?_) (fun h12 => ?_)
     ·have q13 : -9223372036854775808 ≤ (v5 - 1) → (v5 - 1) < 9223372036854775808 → IntKind.wrap .i64 (v5 - 1) = (v5 - 1) := Zao _
      have q14 : -9223372036854775808 ≤ IntKind.wrap .i64 (v5 - 1) ∧ IntKind.wrap .i64 (v5 - 1) < 9223372036854775808 := Zap _
      refine tB (tI (by omega) (by omega)) (fun x15 h16 => ?_)
      refine tD (fun h17 => ?_) (fun h17 => ?_)
      ·exact tR trivial
      ·refine tB (Z0d E0 x3 ob30000000) (fun x18 h19 => ?_)
       refine tO (fun h20 => ?_) (fun h20 => ?_)
       ·exact tR trivial
       ·have q21 : -9223372036854775808 ≤ (v5 + 1) → (v5 + 1) < 9223372036854775808 → IntKind.wrap .i64 (v5 + 1) = (v5 + 1) := Zao _
        have q22 : -9223372036854775808 ≤ IntKind.wrap .i64 (v5 + 1) ∧ IntKind.wrap .i64 (v5 + 1) < 9223372036854775808 := Zap _
        exact tL ⟨ov0, ob30000000, cl⟩ (by unfold Zjb lt6; dsimp only; omega)
     ·refine tB (Z0d E0 x3 ob30000000) (fun x23 h24 => ?_)
      refine tO (fun h25 => ?_) (fun h25 => ?_)
      ·exact tR trivial
      ·have q26 : -9223372036854775808 ≤ (v5 + 1) → (v5 + 1) < 9223372036854775808 → IntKind.wrap .i64 (v5 + 1) = (v5 + 1) := Zao _
       have q27 : -9223372036854775808 ≤ IntKind.wrap .i64 (v5 + 1) ∧ IntKind.wrap .i64 (v5 + 1) < 9223372036854775808 := Zap _
       exact tL ⟨ov0, ob30000000, cl⟩ (by unfold Zjb lt6; dsimp only; omega)
 ·exact tR trivial
theorem Zk1 (a0 : (List Zt)) (a1 : Za) (oa0 : (SzL 176 Zai) a0) (oa1 : Zz a1) : Tot (Zys a0 a1) (fun r => True) := by
 unfold Zys
 refine tX (Inv := Zxx) (μ := Zjb) (m := (1000000, 0, 0, 0, 0, 0)) ?_ ?_
 ·have lb_a0 : a0.length * 176 ≤ 140737488351232 := oa0.1
  dsimp only [Z1y, LT.den]
  have q1 : a1.Objects.length * 128 ≤ 140737488351232 := oa1.2.1.1
  refine tD (fun h2 => ?_) (fun h2 => ?_)
  ·exact tR trivial
  ·exact tL ⟨oa0, oa1, cl⟩ (by unfold Zjb lt6; dsimp only; omega)
 ·intro s hs
  cases s with
  | L0 v0 E0 v5 => exact Z5f v0 E0 v5 hs
def Zwj : Zg1 → Prop
 | .L0 v0 v1 v5 => ((SzL 176 Za2) v0) ∧ ((SzL 176 Za2) v1) ∧ (0 ≤ v5) ∧ (v0.length = v1.length)
def Zk2 : Zg1 → M6
 | .L0 v0 v1 v5 => (1, ((v0.length : Int) - v5).toNat, 1000000, 0, 0, 0)
theorem Z2t (v0 : (List Zj)) (v1 : (List Zj)) (v5 : Int) (h : ((SzL 176 Za2) v0) ∧ ((SzL 176 Za2) v1) ∧ (0 ≤ v5) ∧ (v0.length = v1.length)) : Tot (Zgl v0 v1 v5).den (Nx Zwj Zk2 (1, ((v0.length : Int) - v5).toNat, 1000000, 0, 0, 0) (fun r => True)) := by
 obtain ⟨ov0, ov1, cv5, i0⟩ := h
 have lb_v0 : v0.length * 176 ≤ 140737488351232 := ov0.1
 have lb_v1 : v1.length * 176 ≤ 140737488351232 := ov1.1
 dsimp only [Zgl, LT.den]
 have q1 : v0.length * 176 ≤ 140737488351232 := ov0.1
 refine tD (fun h2 => ?_) (fun h2 => ?_)
 ·refine tB (tI (by omega) (by omega)) (fun x3 h4 => ?_)
  have oh4 : Za2 x3 := ov0.2 x3 h4.1
  refine tB (tI (by omega) (by omega)) (fun x5 h6 => ?_)
  have oh6 : Za2 x5 := ov1.2 x5 h6.1
  refine tO (fun h7 => ?_) (fun h7 => ?_)
  ·exact tR trivial
  ·have q8 : -9223372036854775808 ≤ (v5 + 1) → (v5 + 1) < 9223372036854775808 → IntKind.wrap .i64 (v5 + 1) = (v5 + 1) := Zao _
   have q9 : -9223372036854775808 ≤ IntKind.wrap .i64 (v5 + 1) ∧ IntKind.wrap .i64 (v5 + 1) < 9223372036854775808 := Zap _
   exact tL ⟨ov0, ov1, cl, cl⟩ (by unfold Zk2 lt6; dsimp only; omega)
 ·exact tR trivial
theorem Zwk (a0 : (List Zj)) (a1 : (List Zj)) (oa0 : (SzL 176 Za2) a0) (oa1 : (SzL 176 Za2) a1) : Tot (Zlj a0 a1) (fun r => True) := by
 unfold Zlj
 refine tX (Inv := Zwj) (μ := Zk2) (m := (1000000, 0, 0, 0, 0, 0)) ?_ ?_
 ·have lb_a0 : a0.length * 176 ≤ 140737488351232 := oa0.1
  have lb_a1 : a1.length * 176 ≤ 140737488351232 := oa1.1
  dsimp only [Zqx, LT.den]
  have q1 : a0.length * 176 ≤ 140737488351232 := oa0.1
  have q2 : a1.length * 176 ≤ 140737488351232 := oa1.1
  refine tN (fun h3 => ?_) (fun h3 => ?_)
  ·exact tR trivial
  ·exact tL ⟨oa0, oa1, cl, cl⟩ (by unfold Zk2 lt6; dsimp only; omega)
 ·intro s hs
  cases s with
  | L0 v0 v1 v5 => exact Z2t v0 v1 v5 hs
theorem Zalu (a0 : Zl) (a1 : Zl) (oa0 : Zaa a0) (oa1 : Zaa a1) : Tot (Zvt a0 a1) (fun r => True) := by
 unfold Zvt
 refine tZ ?_
 dsimp only [Z02, LT.den]
 refine tE (fun h1 => ?_) (fun h1 => ?_)
 ·refine tF (fun h2 => ?_) (fun h2 => ?_)
  ·refine tF (fun h3 => ?_) (fun h3 => ?_)
   ·refine tE (fun h4 => ?_) (fun h4 => ?_)
    ·refine tE (fun h5 => ?_) (fun h5 => ?_)
     ·refine tF (fun h6 => ?_) (fun h6 => ?_)
      ·refine tF (fun h7 => ?_) (fun h7 => ?_)
       ·refine tF (fun h8 => ?_) (fun h8 => ?_)
        ·refine tB (Zwk a0.Mods a1.Mods oa0.2.2.2.2 oa1.2.2.2.2) (fun x9 h10 => ?_)
         exact tR trivial
        ·exact tR trivial
       ·exact tR trivial
      ·exact tR trivial
     ·exact tR trivial
    ·exact tR trivial
   ·exact tR trivial
  ·exact tR trivial
 ·exact tR trivial
def Zwl : Zg2 → Prop
 | .L0 v0 v1 v5 => ((SzL 560 Zaa) v0) ∧ ((SzL 560 Zaa) v1) ∧ (0 ≤ v5) ∧ (v0.length = v1.length)
def Zk3 : Zg2 → M6
 | .L0 v0 v1 v5 => (1, ((v0.length : Int) - v5).toNat, 1000000, 0, 0, 0)
theorem Z2u (v0 : (List Zl)) (v1 : (List Zl)) (v5 : Int) (h : ((SzL 560 Zaa) v0) ∧ ((SzL 560 Zaa) v1) ∧ (0 ≤ v5) ∧ (v0.length = v1.length)) : Tot (Zgm v0 v1 v5).den (Nx Zwl Zk3 (1, ((v0.length : Int) - v5).toNat, 1000000, 0, 0, 0) (fun r => True)) := by
 obtain ⟨ov0, ov1, cv5, i0⟩ := h
 have lb_v0 : v0.length * 560 ≤ 140737488351232 := ov0.1
 have lb_v1 : v1.length * 560 ≤ 140737488351232 := ov1.1
 dsimp only [Zgm, LT.den]
 have q1 : v0.length * 560 ≤ 140737488351232 := ov0.1
 refine tD (fun h2 => ?_) (fun h2 => ?_)
 ·refine tB (tI (by omega) (by omega)) (fun x3 h4 => ?_)
  have oh4 : Zaa x3 := ov0.2 x3 h4.1
  refine tB (tI (by omega) (by omega)) (fun x5 h6 => ?_)
  have oh6 : Zaa x5 := ov1.2 x5 h6.1
  refine tB (Zalu x3 x5 oh4 oh6) (fun x7 h8 => ?_)
  refine tO (fun h9 => ?_) (fun h9 => ?_)
  ·exact tR trivial
  ·have q10 : -9223372036854775808 ≤ (v5 + 1) → (v5 + 1) < 9223372036854775808 → IntKind.wrap .i64 (v5 + 1) = (v5 + 1) := Zao _
   have q11 : -9223372036854775808 ≤ IntKind.wrap .i64 (v5 + 1) ∧ IntKind.wrap .i64 (v5 + 1) < 9223372036854775808 := Zap _
   exact tL ⟨ov0, ov1, cl, cl⟩ (by unfold Zk3 lt6; dsimp only; omega)
 ·exact tR trivial
theorem Zaaa (a0 : (List Zl)) (a1 : (List Zl)) (oa0 : (SzL 560 Zaa) a0) (oa1 : (SzL 560 Zaa) a1) : Tot (Zlk a0 a1) (fun r => True) := by
 unfold Zlk
 refine tX (Inv := Zwl) (μ := Zk3) (m := (1000000, 0, 0, 0, 0, 0)) ?_ ?_
 ·have lb_a0 : a0.length * 560 ≤ 140737488351232 := oa0.1
  have lb_a1 : a1.length * 560 ≤ 140737488351232 := oa1.1
  dsimp only [Zqy, LT.den]
  have q1 : a0.length * 560 ≤ 140737488351232 := oa0.1
  have q2 : a1.length * 560 ≤ 140737488351232 := oa1.1
  refine tN (fun h3 => ?_) (fun h3 => ?_)
  ·exact tR trivial
  ·exact tL ⟨oa0, oa1, cl, cl⟩ (by unfold Zk3 lt6; dsimp only; omega)
 ·intro s hs
  cases s with
  | L0 v0 v1 v5 => exact Z2u v0 v1 v5 hs
def Z5g : Zmn → Prop
 | .L0 E0 E1 v5 => (Za1 E0) ∧ (Za1 E1) ∧ (0 ≤ v5) ∧ (E0.Specs.length = E1.Specs.length)
def Zrj : Zmn → M6
 | .L0 E0 E1 v5 => (1, ((E0.Specs.length : Int) - v5).toNat, 1000000, 0, 0, 0)
theorem Zad6 (E0 : Zk) (E1 : Zk) (v5 : Int) (h : (Za1 E0) ∧ (Za1 E1) ∧ (0 ≤ v5) ∧ (E0.Specs.length = E1.Specs.length)) : Tot (Zip E0 E1 v5).den (Nx Z5g Zrj (1, ((E0.Specs.length : Int) - v5).toNat, 1000000, 0, 0, 0) (fun r => True)) := by
 obtain ⟨ob30000000, ob30000001, cv5, i0⟩ := h
 dsimp only [Zip, LT.den]
 have q1 : E0.Specs.length * 144 ≤ 140737488351232 := ob30000000.2.2.2.1.1
 refine tD (fun h2 => ?_) (fun h2 => ?_)
 ·refine tB (tI (by omega) (by omega)) (fun x3 h4 => ?_)
  have oh4 : Zha x3 := ob30000000.2.2.2.1.2 x3 h4.1
  refine tB (tI (by omega) (by omega)) (fun x5 h6 => ?_)
  have oh6 : Zha x5 := ob30000001.2.2.2.1.2 x5 h6.1
  refine tO (fun h7 => ?_) (fun h7 => ?_)
  ·exact tR trivial
  ·have q8 : -9223372036854775808 ≤ (v5 + 1) → (v5 + 1) < 9223372036854775808 → IntKind.wrap .i64 (v5 + 1) = (v5 + 1) := Zao _
   have q9 : -9223372036854775808 ≤ IntKind.wrap .i64 (v5 + 1) ∧ IntKind.wrap .i64 (v5 + 1) < 9223372036854775808 := Zap _
   exact tL ⟨ob30000000, ob30000001, cl, cl⟩ (by unfold Zrj lt6; dsimp only; omega)
 ·refine tE (fun h10 => ?_) (fun h10 => ?_)
  ·refine tF (fun h11 => ?_) (fun h11 => ?_)
   ·refine tB (Zwk E0.Mods E1.Mods ob30000000.2.1 ob30000001.2.1) (fun x12 h13 => ?_)
    refine tF (fun h14 => ?_) (fun h14 => ?_)
    ·refine tF (fun h15 => ?_) (fun h15 => ?_)
     ·refine tF (fun h16 => ?_) (fun h16 => ?_)
      ·refine tF (fun h17 => ?_) (fun h17 => ?_)
       ·refine tF (fun h18 => ?_) (fun h18 => ?_)
        ·refine tB (Zaaa E0.Effects E1.Effects ob30000000.2.2.2.2.1 ob30000001.2.2.2.2.1) (fun x19 h20 => ?_)
         refine tF (fun h21 => ?_) (fun h21 => ?_)
         ·exact tR trivial
         ·exact tR trivial
        ·exact tR trivial
       ·exact tR trivial
      ·exact tR trivial
     ·exact tR trivial
    ·exact tR trivial
   ·exact tR trivial
  ·exact tR trivial
theorem Zalv (a0 : Zk) (a1 : Zk) (oa0 : Za1 a0) (oa1 : Za1 a1) : Tot (Zvu a0 a1) (fun r => True) := by
 unfold Zvu
 refine tX (Inv := Z5g) (μ := Zrj) (m := (1000000, 0, 0, 0, 0, 0)) ?_ ?_
 ·dsimp only [Z03, LT.den]
  have q1 : a0.Specs.length * 144 ≤ 140737488351232 := oa0.2.2.2.1.1
  have q2 : a1.Specs.length * 144 ≤ 140737488351232 := oa1.2.2.2.1.1
  refine tN (fun h3 => ?_) (fun h3 => ?_)
  ·exact tR trivial
  ·exact tL ⟨oa0, oa1, cl, cl⟩ (by unfold Zrj lt6; dsimp only; omega)
 ·intro s hs
  cases s with
  | L0 E0 E1 v5 => exact Zad6 E0 E1 v5 hs
theorem Zalw (a0 : Za) (a1 : Z6) (oa0 : Zz a0) (oa1 : Zfx a1) : Tot (Z9l a0 a1) (fun r => True) := by
 unfold Z9l
 refine tZ ?_
 dsimp only [Zact, LT.den]
 have q1 : -9223372036854775808 ≤ (a0.NextId - 1) → (a0.NextId - 1) < 9223372036854775808 → IntKind.wrap .i64 (a0.NextId - 1) = (a0.NextId - 1) := Zao _
 have q2 : -9223372036854775808 ≤ IntKind.wrap .i64 (a0.NextId - 1) ∧ IntKind.wrap .i64 (a0.NextId - 1) < 9223372036854775808 := Zap _
 refine tB (Zex a1.Id 1 (IntKind.wrap .i64 (a0.NextId - 1))) (fun x3 h4 => ?_)
 refine tO (fun h5 => ?_) (fun h5 => ?_)
 ·exact tR trivial
 ·refine tB (Zex a1.X 0 1000000) (fun x6 h7 => ?_)
  refine tO (fun h8 => ?_) (fun h8 => ?_)
  ·exact tR trivial
  ·have q9 : a1.Targets.length * 16 ≤ 140737488351232 := oa1.2.1
   refine tD (fun h10 => ?_) (fun h10 => ?_)
   ·exact tR trivial
   ·refine tB (Zg7 a0 a1.Control oa0) (fun x11 h12 => ?_)
    refine tO (fun h13 => ?_) (fun h13 => ?_)
    ·exact tR trivial
    ·refine tB (Z0b a0 a1.Id oa0) (fun x14 h15 => ?_)
     refine tE (fun h16 => ?_) (fun h16 => ?_)
     ·refine tB (Zalv a1.Ability (⟨0, (⟨0, 0, 0, 0, 0, 0, 0, ([] : List UInt8), 0, 0, (⟨0, 0⟩ : Zc), (⟨0, 0⟩ : Zc), (⟨0, 0⟩ : Zc)⟩ : Zh), ([] : (List Zj)), (⟨(⟨0, 0, (⟨0, 0, 0, 0, 0⟩ : (A5 Int))⟩ : Zay), false, false, 0⟩ : Ze5), false, (⟨0, 0, (⟨0, 0, 0, 0, 0, 0, 0, ([] : List UInt8), 0, 0, (⟨0, 0⟩ : Zc), (⟨0, 0⟩ : Zc), (⟨0, 0⟩ : Zc)⟩ : Zh)⟩ : Zce), false, ([] : (List Zaz)), ([] : (List Zl)), (⟨0, 0, (⟨0, 0, 0, 0, 0, 0, 0, ([] : List UInt8), 0, 0, (⟨0, 0⟩ : Zc), (⟨0, 0⟩ : Zc), (⟨0, 0⟩ : Zc)⟩ : Zh), 0, 0, 0, 0⟩ : Za3)⟩ : Zk) oa1.1 ⟨(SzS.nil), SzL.nil, (SzS.nil), SzL.nil, SzL.nil, (SzS.nil)⟩) (fun x17 h18 => ?_)
      refine tE (fun h19 => ?_) (fun h19 => ?_)
      ·refine tF (fun h20 => ?_) (fun h20 => ?_)
       ·refine tE (fun h21 => ?_) (fun h21 => ?_)
        ·refine tF (fun h22 => ?_) (fun h22 => ?_)
         ·exact tR trivial
         ·refine tB (Zuk a1.Ability oa1.1) (fun x23 h24 => ?_)
          exact tR trivial
        ·exact tR trivial
       ·exact tR trivial
      ·exact tR trivial
     ·refine tE (fun h25 => ?_) (fun h25 => ?_)
      ·refine tO (fun h26 => ?_) (fun h26 => ?_)
       ·refine tB (Zuk a1.Ability oa1.1) (fun x27 h28 => ?_)
        exact tR trivial
       ·exact tR trivial
      ·exact tR trivial
def Zad7 : Zvv → Prop
 | .L0 v0 v3 => ((SzL 8 (fun _ => True)) v0) ∧ (0 ≤ v3) ∧ (1 ≤ v3)
def Zxy : Zvv → M6
 | .L0 v0 v3 => (1, ((v0.length : Int) - v3).toNat, 1000000, 0, 0, 0)
theorem Zahl (v0 : (List Int)) (v3 : Int) (h : ((SzL 8 (fun _ => True)) v0) ∧ (0 ≤ v3) ∧ (1 ≤ v3)) : Tot (Z4d v0 v3).den (Nx Zad7 Zxy (1, ((v0.length : Int) - v3).toNat, 1000000, 0, 0, 0) (fun r => True)) := by
 obtain ⟨ov0, cv3, i0⟩ := h
 have lb_v0 : v0.length * 8 ≤ 140737488351232 := ov0.1
 dsimp only [Z4d, LT.den]
 have q1 : v0.length * 8 ≤ 140737488351232 := ov0.1
 refine tD (fun h2 => ?_) (fun h2 => ?_)
 ·have q3 : -9223372036854775808 ≤ (v3 - 1) → (v3 - 1) < 9223372036854775808 → IntKind.wrap .i64 (v3 - 1) = (v3 - 1) := Zao _
  have q4 : -9223372036854775808 ≤ IntKind.wrap .i64 (v3 - 1) ∧ IntKind.wrap .i64 (v3 - 1) < 9223372036854775808 := Zap _
  refine tB (tI (by omega) (by omega)) (fun x5 h6 => ?_)
  refine tB (tI (by omega) (by omega)) (fun x7 h8 => ?_)
  refine tD (fun h9 => ?_) (fun h9 => ?_)
  ·exact tR trivial
  ·have q10 : -9223372036854775808 ≤ (v3 + 1) → (v3 + 1) < 9223372036854775808 → IntKind.wrap .i64 (v3 + 1) = (v3 + 1) := Zao _
   have q11 : -9223372036854775808 ≤ IntKind.wrap .i64 (v3 + 1) ∧ IntKind.wrap .i64 (v3 + 1) < 9223372036854775808 := Zap _
   exact tL ⟨ov0, cl, cl⟩ (by unfold Zxy lt6; dsimp only; omega)
 ·exact tR trivial
theorem Zao7 (a0 : (List Int)) (oa0 : (SzL 8 (fun _ => True)) a0) : Tot (Zakv a0) (fun r => True) := by
 unfold Zakv
 refine tX (Inv := Zad7) (μ := Zxy) (m := (1000000, 0, 0, 0, 0, 0)) ?_ ?_
 ·have lb_a0 : a0.length * 8 ≤ 140737488351232 := oa0.1
  dsimp only [Zakt, LT.den]
  exact tL ⟨oa0, cl, cl⟩ (by unfold Zxy lt6; dsimp only; omega)
 ·intro s hs
  cases s with
  | L0 v0 v3 => exact Zahl v0 v3 hs
def Zkk : Zhx → Prop
 | .L0 E0 v3 => (Zz E0) ∧ (0 ≤ v3)
 | .L1 E0 v3 v4 => (Zz E0) ∧ (0 ≤ v4) ∧ (0 ≤ v3) ∧ (v3 < (E0.Stack.length : Int))
 | .L2 E0 v5 => (Zz E0) ∧ (0 ≤ v5)
 | .L3 E0 v7 => (Zz E0) ∧ (0 ≤ v7)
def Zd0 : Zhx → M6
 | .L0 E0 v3 => (5, ((E0.Stack.length : Int) - v3).toNat, 1000000, 0, 0, 0)
 | .L1 E0 v3 v4 => (5, ((E0.Stack.length : Int) - v3).toNat, 1, (v3 - v4).toNat, 1000000, 0)
 | .L2 E0 v5 => (3, ((E0.Waiting.length : Int) - v5).toNat, 1000000, 0, 0, 0)
 | .L3 E0 v7 => (1, ((E0.Conts.length : Int) - v7).toNat, 1000000, 0, 0, 0)
theorem Zaab (E0 : Za) (v3 : Int) (h : (Zz E0) ∧ (0 ≤ v3)) : Tot (Zvw E0 v3).den (Nx Zkk Zd0 (5, ((E0.Stack.length : Int) - v3).toNat, 1000000, 0, 0, 0) (fun r => True)) := by
 obtain ⟨ob30000000, cv3⟩ := h
 dsimp only [Zvw, LT.den]
 have q1 : E0.Stack.length * 824 ≤ 140737488351232 := ob30000000.2.2.2.2.1.1
 refine tD (fun h2 => ?_) (fun h2 => ?_)
 ·refine tB (tI (by omega) (by omega)) (fun x3 h4 => ?_)
  have oh4 : Zfx x3 := ob30000000.2.2.2.2.1.2 x3 h4.1
  refine tB (Zalw E0 x3 ob30000000 oh4) (fun x5 h6 => ?_)
  refine tO (fun h7 => ?_) (fun h7 => ?_)
  ·exact tR trivial
  ·exact tL ⟨ob30000000, cl, cl, cl⟩ (by unfold Zd0 lt6; dsimp only; omega)
 ·exact tL ⟨ob30000000, cl⟩ (by unfold Zd0 lt6; dsimp only; omega)
theorem Zaac (E0 : Za) (v3 : Int) (v4 : Int) (h : (Zz E0) ∧ (0 ≤ v4) ∧ (0 ≤ v3) ∧ (v3 < (E0.Stack.length : Int))) : Tot (Zvx E0 v3 v4).den (Nx Zkk Zd0 (5, ((E0.Stack.length : Int) - v3).toNat, 1, (v3 - v4).toNat, 1000000, 0) (fun r => True)) := by
 obtain ⟨ob30000000, cv4, cv3, bd3⟩ := h
 dsimp only [Zvx, LT.den]
 have lx_0 : E0.Stack.length * 824 ≤ 140737488351232 := ob30000000.2.2.2.2.1.1
 refine tD (fun h1 => ?_) (fun h1 => ?_)
 ·refine tB (tI (by omega) (by omega)) (fun x2 h3 => ?_)
  have oh3 : Zfx x2 := ob30000000.2.2.2.2.1.2 x2 h3.1
  refine tB (tI (by omega) (by omega)) (fun x4 h5 => ?_)
  have oh5 : Zfx x4 := ob30000000.2.2.2.2.1.2 x4 h5.1
  refine tE (fun h6 => ?_) (fun h6 => ?_)
  ·exact tR trivial
  ·have q7 : -9223372036854775808 ≤ (v4 + 1) → (v4 + 1) < 9223372036854775808 → IntKind.wrap .i64 (v4 + 1) = (v4 + 1) := Zao _
   have q8 : -9223372036854775808 ≤ IntKind.wrap .i64 (v4 + 1) ∧ IntKind.wrap .i64 (v4 + 1) < 9223372036854775808 := Zap _
   exact tL ⟨ob30000000, cl, cl, cl⟩ (by unfold Zd0 lt6; dsimp only; omega)
 ·have q9 : -9223372036854775808 ≤ (v3 + 1) → (v3 + 1) < 9223372036854775808 → IntKind.wrap .i64 (v3 + 1) = (v3 + 1) := Zao _
  have q10 : -9223372036854775808 ≤ IntKind.wrap .i64 (v3 + 1) ∧ IntKind.wrap .i64 (v3 + 1) < 9223372036854775808 := Zap _
  exact tL ⟨ob30000000, cl⟩ (by unfold Zd0 lt6; dsimp only; omega)
theorem Zaad (E0 : Za) (v5 : Int) (h : (Zz E0) ∧ (0 ≤ v5)) : Tot (Zvy E0 v5).den (Nx Zkk Zd0 (3, ((E0.Waiting.length : Int) - v5).toNat, 1000000, 0, 0, 0) (fun r => True)) := by
 obtain ⟨ob30000000, cv5⟩ := h
 dsimp only [Zvy, LT.den]
 have q1 : E0.Waiting.length * 768 ≤ 140737488351232 := ob30000000.2.2.2.2.2.1.1
 refine tD (fun h2 => ?_) (fun h2 => ?_)
 ·refine tB (tI (by omega) (by omega)) (fun x3 h4 => ?_)
  have oh4 : Zg6 x3 := ob30000000.2.2.2.2.2.1.2 x3 h4.1
  refine tB (Zg7 E0 x3.Control ob30000000) (fun x5 h6 => ?_)
  refine tO (fun h7 => ?_) (fun h7 => ?_)
  ·exact tR trivial
  ·refine tN (fun h8 => ?_) (fun h8 => ?_)
   ·exact tR trivial
   ·refine tB (Zuk x3.Ability oh4) (fun x9 h10 => ?_)
    refine tO (fun h11 => ?_) (fun h11 => ?_)
    ·exact tR trivial
    ·have q12 : -9223372036854775808 ≤ (v5 + 1) → (v5 + 1) < 9223372036854775808 → IntKind.wrap .i64 (v5 + 1) = (v5 + 1) := Zao _
     have q13 : -9223372036854775808 ≤ IntKind.wrap .i64 (v5 + 1) ∧ IntKind.wrap .i64 (v5 + 1) < 9223372036854775808 := Zap _
     exact tL ⟨ob30000000, cl⟩ (by unfold Zd0 lt6; dsimp only; omega)
 ·exact tL ⟨ob30000000, cl⟩ (by unfold Zd0 lt6; dsimp only; omega)
theorem Zaae (E0 : Za) (v7 : Int) (h : (Zz E0) ∧ (0 ≤ v7)) : Tot (Zvz E0 v7).den (Nx Zkk Zd0 (1, ((E0.Conts.length : Int) - v7).toNat, 1000000, 0, 0, 0) (fun r => True)) := by
 obtain ⟨ob30000000, cv7⟩ := h
 dsimp only [Zvz, LT.den]
 have q1 : E0.Conts.length * 80 ≤ 140737488351232 := ob30000000.2.2.2.2.2.2.1.1
 refine tD (fun h2 => ?_) (fun h2 => ?_)
 ·refine tB (tI (by omega) (by omega)) (fun x3 h4 => ?_)
  have oh4 : Zir x3 := ob30000000.2.2.2.2.2.2.1.2 x3 h4.1
  refine tB (Zg7 E0 x3.Control ob30000000) (fun x5 h6 => ?_)
  refine tO (fun h7 => ?_) (fun h7 => ?_)
  ·exact tR trivial
  ·refine tD (fun h8 => ?_) (fun h8 => ?_)
   ·exact tR trivial
   ·refine tB (Zex x3.Until 1 2) (fun x9 h10 => ?_)
    refine tO (fun h11 => ?_) (fun h11 => ?_)
    ·exact tR trivial
    ·refine tB (Zao7 x3.Objects oh4.1) (fun x12 h13 => ?_)
     refine tO (fun h14 => ?_) (fun h14 => ?_)
     ·exact tR trivial
     ·refine tB (Zom x3.Mods oh4.2) (fun x15 h16 => ?_)
      replace h16 : (x15.length ≤ 4611686018427387904) := h16
      have eh16_0 := h16
      try simp only [List.length_nil, List.length_cons, Nat.zero_add] at eh16_0
      refine tF (fun h17 => ?_) (fun h17 => ?_)
      ·exact tR trivial
      ·have q18 : -9223372036854775808 ≤ (v7 + 1) → (v7 + 1) < 9223372036854775808 → IntKind.wrap .i64 (v7 + 1) = (v7 + 1) := Zao _
       have q19 : -9223372036854775808 ≤ IntKind.wrap .i64 (v7 + 1) ∧ IntKind.wrap .i64 (v7 + 1) < 9223372036854775808 := Zap _
       exact tL ⟨ob30000000, cl⟩ (by unfold Zd0 lt6; dsimp only; omega)
 ·exact tR trivial
theorem Zn9 (a0 : Za) (oa0 : Zz a0) : Tot (Z4e a0) (fun r => True) := by
 unfold Z4e
 refine tX (Inv := Zkk) (μ := Zd0) (m := (1000000, 0, 0, 0, 0, 0)) ?_ ?_
 ·dsimp only [Z7u, LT.den]
  have q1 : a0.Stack.length * 824 ≤ 140737488351232 := oa0.2.2.2.2.1.1
  refine tD (fun h2 => ?_) (fun h2 => ?_)
  ·exact tR trivial
  ·have q3 : a0.Waiting.length * 768 ≤ 140737488351232 := oa0.2.2.2.2.2.1.1
   refine tD (fun h4 => ?_) (fun h4 => ?_)
   ·exact tR trivial
   ·have q5 : a0.Conts.length * 80 ≤ 140737488351232 := oa0.2.2.2.2.2.2.1.1
    refine tD (fun h6 => ?_) (fun h6 => ?_)
    ·exact tR trivial
    ·exact tL ⟨oa0, cl⟩ (by unfold Zd0 lt6; dsimp only; omega)
 ·intro s hs
  cases s with
  | L0 E0 v3 => exact Zaab E0 v3 hs
  | L1 E0 v3 v4 => exact Zaac E0 v3 v4 hs
  | L2 E0 v5 => exact Zaad E0 v5 hs
  | L3 E0 v7 => exact Zaae E0 v7 hs
def Zad8 : Zv0 → Prop
 | .L0 v0 E0 v5 => ((SzL 176 Zai) v0) ∧ (Zz E0) ∧ (0 ≤ v5)
def Zxz : Zv0 → M6
 | .L0 v0 E0 v5 => (1, ((E0.Extra.length : Int) - v5).toNat, 1000000, 0, 0, 0)
theorem Zahm (v0 : (List Zt)) (E0 : Za) (v5 : Int) (h : ((SzL 176 Zai) v0) ∧ (Zz E0) ∧ (0 ≤ v5)) : Tot (Z4f v0 E0 v5).den (Nx Zad8 Zxz (1, ((E0.Extra.length : Int) - v5).toNat, 1000000, 0, 0, 0) (fun r => True)) := by
 obtain ⟨ov0, ob30000000, cv5⟩ := h
 have lb_v0 : v0.length * 176 ≤ 140737488351232 := ov0.1
 dsimp only [Z4f, LT.den]
 have q1 : E0.Extra.length * 8 ≤ 140737488351232 := ob30000000.2.2.2.2.2.2.2.1
 refine tD (fun h2 => ?_) (fun h2 => ?_)
 ·refine tB (tI (by omega) (by omega)) (fun x3 h4 => ?_)
  refine tB (Zg7 E0 x3 ob30000000) (fun x5 h6 => ?_)
  refine tO (fun h7 => ?_) (fun h7 => ?_)
  ·exact tR trivial
  ·have q8 : -9223372036854775808 ≤ (v5 + 1) → (v5 + 1) < 9223372036854775808 → IntKind.wrap .i64 (v5 + 1) = (v5 + 1) := Zao _
   have q9 : -9223372036854775808 ≤ IntKind.wrap .i64 (v5 + 1) ∧ IntKind.wrap .i64 (v5 + 1) < 9223372036854775808 := Zap _
   exact tL ⟨ov0, ob30000000, cl⟩ (by unfold Zxz lt6; dsimp only; omega)
 ·refine tE (fun h10 => ?_) (fun h10 => ?_)
  ·refine tB (Zg7 E0 E0.Winner ob30000000) (fun x11 h12 => ?_)
   refine tO (fun h13 => ?_) (fun h13 => ?_)
   ·exact tR trivial
   ·refine tN (fun h14 => ?_) (fun h14 => ?_)
    ·refine tN (fun h15 => ?_) (fun h15 => ?_)
     ·exact tR trivial
     ·refine tB (Zk1 v0 E0 ov0 ob30000000) (fun x16 h17 => ?_)
      refine tF (fun h18 => ?_) (fun h18 => ?_)
      ·refine tB (Zn9 E0 ob30000000) (fun x19 h20 => ?_)
       exact tR trivial
      ·exact tR trivial
    ·refine tB (Zk1 v0 E0 ov0 ob30000000) (fun x21 h22 => ?_)
     refine tF (fun h23 => ?_) (fun h23 => ?_)
     ·refine tB (Zn9 E0 ob30000000) (fun x24 h25 => ?_)
      exact tR trivial
     ·exact tR trivial
  ·refine tN (fun h26 => ?_) (fun h26 => ?_)
   ·refine tN (fun h27 => ?_) (fun h27 => ?_)
    ·exact tR trivial
    ·refine tB (Zk1 v0 E0 ov0 ob30000000) (fun x28 h29 => ?_)
     refine tF (fun h30 => ?_) (fun h30 => ?_)
     ·refine tB (Zn9 E0 ob30000000) (fun x31 h32 => ?_)
      exact tR trivial
     ·exact tR trivial
   ·refine tB (Zk1 v0 E0 ov0 ob30000000) (fun x33 h34 => ?_)
    refine tF (fun h35 => ?_) (fun h35 => ?_)
    ·refine tB (Zn9 E0 ob30000000) (fun x36 h37 => ?_)
     exact tR trivial
    ·exact tR trivial
theorem Zao8 (a0 : (List Zt)) (a1 : Za) (oa0 : (SzL 176 Zai) a0) (oa1 : Zz a1) : Tot (Zaky a0 a1) (fun r => True) := by
 unfold Zaky
 refine tX (Inv := Zad8) (μ := Zxz) (m := (1000000, 0, 0, 0, 0, 0)) ?_ ?_
 ·have lb_a0 : a0.length * 176 ≤ 140737488351232 := oa0.1
  dsimp only [Zakw, LT.den]
  refine tB (Zex a1.NextId 1 1000000) (fun x1 h2 => ?_)
  refine tO (fun h3 => ?_) (fun h3 => ?_)
  ·exact tR trivial
  ·refine tB (Zex a1.NextStamp 1 1000000) (fun x4 h5 => ?_)
   refine tO (fun h6 => ?_) (fun h6 => ?_)
   ·exact tR trivial
   ·refine tB (Zex a1.Turn 0 500) (fun x7 h8 => ?_)
    refine tO (fun h9 => ?_) (fun h9 => ?_)
    ·exact tR trivial
    ·refine tB (Zex a1.Step 0 10) (fun x10 h11 => ?_)
     refine tO (fun h12 => ?_) (fun h12 => ?_)
     ·exact tR trivial
     ·have q13 : a1.Objects.length * 128 ≤ 140737488351232 := oa1.2.1.1
      refine tD (fun h14 => ?_) (fun h14 => ?_)
      ·exact tR trivial
      ·refine tB (Zad4 a1 oa1) (fun x15 h16 => ?_)
       refine tO (fun h17 => ?_) (fun h17 => ?_)
       ·exact tR trivial
       ·refine tB (Zg7 a1 a1.Active oa1) (fun x18 h19 => ?_)
        refine tO (fun h20 => ?_) (fun h20 => ?_)
        ·exact tR trivial
        ·refine tB (Zg7 a1 a1.Priority oa1) (fun x21 h22 => ?_)
         refine tO (fun h23 => ?_) (fun h23 => ?_)
         ·exact tR trivial
         ·have q24 : a1.Players.length * 152 ≤ 140737488351232 := oa1.1.1
          refine tB (Zex a1.Passes 0 (a1.Players.length : Int)) (fun x25 h26 => ?_)
          refine tO (fun h27 => ?_) (fun h27 => ?_)
          ·exact tR trivial
          ·have q28 : a1.Extra.length * 8 ≤ 140737488351232 := oa1.2.2.2.2.2.2.2.1
           refine tD (fun h29 => ?_) (fun h29 => ?_)
           ·exact tR trivial
           ·refine tB (Zex a1.Over 0 2) (fun x30 h31 => ?_)
            refine tO (fun h32 => ?_) (fun h32 => ?_)
            ·exact tR trivial
            ·exact tL ⟨oa0, oa1, cl⟩ (by unfold Zxz lt6; dsimp only; omega)
 ·intro s hs
  cases s with
  | L0 v0 E0 v5 => exact Zahm v0 E0 v5 hs
def Z2l : Znh → Prop
 | .L0 v0 E0 v5 => ((SzL 176 Zai) v0) ∧ (Zz E0) ∧ (0 ≤ v5)
def Zqe : Znh → M6
 | .L0 v0 E0 v5 => (1, ((E0.Players.length : Int) - v5).toNat, 1000000, 0, 0, 0)
theorem Zaaf (v0 : (List Zt)) (E0 : Za) (v5 : Int) (h : ((SzL 176 Zai) v0) ∧ (Zz E0) ∧ (0 ≤ v5)) : Tot (Zv1 v0 E0 v5).den (Nx Z2l Zqe (1, ((E0.Players.length : Int) - v5).toNat, 1000000, 0, 0, 0) (fun r => True)) := by
 obtain ⟨ov0, ob30000000, cv5⟩ := h
 have lb_v0 : v0.length * 176 ≤ 140737488351232 := ov0.1
 dsimp only [Zv1, LT.den]
 have q1 : E0.Players.length * 152 ≤ 140737488351232 := ob30000000.1.1
 refine tD (fun h2 => ?_) (fun h2 => ?_)
 ·refine tB (tI (by omega) (by omega)) (fun x3 h4 => ?_)
  have oh4 : Zf0 x3 := ob30000000.1.2 x3 h4.1
  have q5 : x3.Library.length * 8 ≤ 140737488351232 := oh4.1.1
  have q6 : x3.Hand.length * 8 ≤ 140737488351232 := oh4.2.1.1
  have q7 : -9223372036854775808 ≤ ((x3.Library.length : Int) + (x3.Hand.length : Int)) → ((x3.Library.length : Int) + (x3.Hand.length : Int)) < 9223372036854775808 → IntKind.wrap .i64 ((x3.Library.length : Int) + (x3.Hand.length : Int)) = ((x3.Library.length : Int) + (x3.Hand.length : Int)) := Zao _
  have q8 : -9223372036854775808 ≤ IntKind.wrap .i64 ((x3.Library.length : Int) + (x3.Hand.length : Int)) ∧ IntKind.wrap .i64 ((x3.Library.length : Int) + (x3.Hand.length : Int)) < 9223372036854775808 := Zap _
  have q9 : x3.Graveyard.length * 8 ≤ 140737488351232 := oh4.2.2.1
  have q10 : -9223372036854775808 ≤ ((IntKind.wrap .i64 ((x3.Library.length : Int) + (x3.Hand.length : Int))) + (x3.Graveyard.length : Int)) → ((IntKind.wrap .i64 ((x3.Library.length : Int) + (x3.Hand.length : Int))) + (x3.Graveyard.length : Int)) < 9223372036854775808 → IntKind.wrap .i64 ((IntKind.wrap .i64 ((x3.Library.length : Int) + (x3.Hand.length : Int))) + (x3.Graveyard.length : Int)) = ((IntKind.wrap .i64 ((x3.Library.length : Int) + (x3.Hand.length : Int))) + (x3.Graveyard.length : Int)) := Zao _
  have q11 : -9223372036854775808 ≤ IntKind.wrap .i64 ((IntKind.wrap .i64 ((x3.Library.length : Int) + (x3.Hand.length : Int))) + (x3.Graveyard.length : Int)) ∧ IntKind.wrap .i64 ((IntKind.wrap .i64 ((x3.Library.length : Int) + (x3.Hand.length : Int))) + (x3.Graveyard.length : Int)) < 9223372036854775808 := Zap _
  refine tD (fun h12 => ?_) (fun h12 => ?_)
  ·exact tR trivial
  ·have q13 : -9223372036854775808 ≤ (v5 + 1) → (v5 + 1) < 9223372036854775808 → IntKind.wrap .i64 (v5 + 1) = (v5 + 1) := Zao _
   have q14 : -9223372036854775808 ≤ IntKind.wrap .i64 (v5 + 1) ∧ IntKind.wrap .i64 (v5 + 1) < 9223372036854775808 := Zap _
   exact tL ⟨ov0, ob30000000, cl⟩ (by unfold Zqe lt6; dsimp only; omega)
 ·refine tB (Zahg v0 ov0) (fun x15 h16 => ?_)
  refine tE (fun h17 => ?_) (fun h17 => ?_)
  ·refine tB (Zao8 v0 E0 ov0 ob30000000) (fun x18 h19 => ?_)
   exact tR trivial
  ·exact tR trivial
theorem Zahn (a0 : (List Zt)) (a1 : Za) (oa0 : (SzL 176 Zai) a0) (oa1 : Zz a1) : Tot (Z4g a0 a1) (fun r => True) := by
 unfold Z4g
 refine tX (Inv := Z2l) (μ := Zqe) (m := (1000000, 0, 0, 0, 0, 0)) ?_ ?_
 ·have lb_a0 : a0.length * 176 ≤ 140737488351232 := oa0.1
  dsimp only [Z7w, LT.den]
  have q1 : a0.length * 176 ≤ 140737488351232 := oa0.1
  refine tD (fun h2 => ?_) (fun h2 => ?_)
  ·exact tR trivial
  ·have q3 : a1.Players.length * 152 ≤ 140737488351232 := oa1.1.1
   refine tD (fun h4 => ?_) (fun h4 => ?_)
   ·exact tR trivial
   ·have q5 : a1.Objects.length * 128 ≤ 140737488351232 := oa1.2.1.1
    refine tD (fun h6 => ?_) (fun h6 => ?_)
    ·exact tR trivial
    ·have q7 : a1.Battlefield.length * 8 ≤ 140737488351232 := oa1.2.2.1.1
     refine tD (fun h8 => ?_) (fun h8 => ?_)
     ·exact tR trivial
     ·have q9 : a1.Exile.length * 8 ≤ 140737488351232 := oa1.2.2.2.1.1
      refine tD (fun h10 => ?_) (fun h10 => ?_)
      ·exact tR trivial
      ·have q11 : a1.Stack.length * 824 ≤ 140737488351232 := oa1.2.2.2.2.1.1
       refine tD (fun h12 => ?_) (fun h12 => ?_)
       ·exact tR trivial
       ·have q13 : a1.Waiting.length * 768 ≤ 140737488351232 := oa1.2.2.2.2.2.1.1
        refine tD (fun h14 => ?_) (fun h14 => ?_)
        ·exact tR trivial
        ·have q15 : a1.Conts.length * 80 ≤ 140737488351232 := oa1.2.2.2.2.2.2.1.1
         refine tD (fun h16 => ?_) (fun h16 => ?_)
         ·exact tR trivial
         ·have q17 : a1.Extra.length * 8 ≤ 140737488351232 := oa1.2.2.2.2.2.2.2.1
          refine tD (fun h18 => ?_) (fun h18 => ?_)
          ·exact tR trivial
          ·exact tL ⟨oa0, oa1, cl⟩ (by unfold Zqe lt6; dsimp only; omega)
 ·intro s hs
  cases s with
  | L0 v0 E0 v5 => exact Zaaf v0 E0 v5 hs
theorem Z8g (a0 : Z8) (oa0 : Zgh a0) : Tot (Zae6 a0) (fun r => True) := by
 unfold Zae6
 refine tZ ?_
 dsimp only [Zagf, LT.den]
 refine tB (Zahn a0.Cards a0.State oa0.1 oa0.2.1) (fun x1 h2 => ?_)
 refine tF (fun h3 => ?_) (fun h3 => ?_)
 ·have q4 : a0.Pending.Options.length * 24 ≤ 140737488351232 := oa0.2.2.2.1.1
  exact tR trivial
 ·exact tR trivial
end Go.PW
