import Derived.Test.YtloamjgjcjandaaGreatQX
set_option linter.all false
set_option maxRecDepth 100000
namespace Go.PW
abbrev Zal5 : Zpf → Prop
 | .L0 E0 => (Zyg E0)
abbrev Zarr : Zpf → M6
 | .L0 E0 => (0, 0, 0, 0, 0, 0)
theorem Z85 (E0 : Zdj) (h : Zal5 (.L0 E0)) : Tot (Z1a E0) (Nx Zal5 Zarr (Zarr (.L0 E0)) (fun r => True)) := by
 have ob30000000 := h
 unfold Z1a
 refine Tot.bind (Zat6 E0.When) (fun x1 h2 => ?_)
 refine Tot.not (fun h3 => ?_) (fun h3 => ?_)
 ·exact Tot.inr trivial
 ·refine Tot.ieq (fun h4 => ?_) (fun h4 => ?_)
  ·refine Tot.bind (Zl8 E0.Filter ob30000000) (fun x5 h6 => ?_)
   replace h6 : (x5 = true → 0 ≤ E0.Filter.Zone ∧ E0.Filter.Zone ≤ 5 ∧ 0 ≤ E0.Filter.Who ∧ E0.Filter.Who ≤ 2 ∧ 0 ≤ E0.Filter.Self ∧ E0.Filter.Self ≤ 2 ∧ 0 ≤ E0.Filter.Tap ∧ E0.Filter.Tap ≤ 2 ∧ 0 ≤ E0.Filter.Power.Kind ∧ E0.Filter.Power.Kind ≤ 3 ∧ 0 ≤ E0.Filter.Tough.Kind ∧ E0.Filter.Tough.Kind ≤ 3 ∧ 0 ≤ E0.Filter.Value.Kind ∧ E0.Filter.Value.Kind ≤ 3) := h6
   have eh6_0 := h6
   refine Tot.bif (fun h7 => ?_) (fun h7 => ?_)
   ·have h7_0 := eh6_0 h7
    exact Tot.inr trivial
   ·exact Tot.inr trivial
  ·refine Tot.bind (Zl8 E0.Filter ob30000000) (fun x8 h9 => ?_)
   replace h9 : (x8 = true → 0 ≤ E0.Filter.Zone ∧ E0.Filter.Zone ≤ 5 ∧ 0 ≤ E0.Filter.Who ∧ E0.Filter.Who ≤ 2 ∧ 0 ≤ E0.Filter.Self ∧ E0.Filter.Self ≤ 2 ∧ 0 ≤ E0.Filter.Tap ∧ E0.Filter.Tap ≤ 2 ∧ 0 ≤ E0.Filter.Power.Kind ∧ E0.Filter.Power.Kind ≤ 3 ∧ 0 ≤ E0.Filter.Tough.Kind ∧ E0.Filter.Tough.Kind ≤ 3 ∧ 0 ≤ E0.Filter.Value.Kind ∧ E0.Filter.Value.Kind ≤ 3) := h9
   have eh9_0 := h9
   refine Tot.bif (fun h10 => ?_) (fun h10 => ?_)
   ·have h10_0 := eh9_0 h10
    exact Tot.inr trivial
   ·exact Tot.inr trivial
theorem Zblv (a0 : Zdj) (oa0 : Zyg a0) : Tot (Zazv a0) (fun r => True) := by
 unfold Zazv
 refine Tot.fin (Inv := Zal5) (μ := Zarr) (m := (1000000, 0, 0, 0, 0, 0)) ?_ ?_
 ·unfold Zav8
  refine Tot.bind (Zarq a0.When) (fun x1 h2 => ?_)
  replace h2 : (SzN x1) := h2
  refine Tot.bif (fun h3 => ?_) (fun h3 => ?_)
  ·exact Tot.inr trivial
  ·refine Tot.dif (fun h4 => ?_) (fun h4 => ?_)
   ·exact Tot.inr trivial
   ·refine Tot.dif (fun h5 => ?_) (fun h5 => ?_)
    ·exact Tot.inr trivial
    ·refine Tot.bind (Zaja a0.When) (fun x6 h7 => ?_)
     refine Tot.not (fun h8 => ?_) (fun h8 => ?_)
     ·refine Tot.ine (fun h9 => ?_) (fun h9 => ?_)
      ·exact Tot.inr trivial
      ·exact Tot.join (Z85 a0 oa0) (by unfold le6 lt6; dsimp only; omega)
     ·exact Tot.join (Z85 a0 oa0) (by unfold le6 lt6; dsimp only; omega)
 ·intro s hs
  cases s with
  | L0 E0 => exact Z85 E0 hs
abbrev Zba8 : Zm7 → Prop := fun _ => True
abbrev Zbfy : Zm7 → M6 := fun _ => (0, 0, 0, 0, 0, 0)
theorem Z86 (a0 : Zi) (oa0 : Zcv a0) : Tot (Z1b a0) (fun r => True) := by
 unfold Z1b
 refine Tot.fin (Inv := Zba8) (μ := Zbfy) (m := (1000000, 0, 0, 0, 0, 0)) ?_ ?_
 ·unfold Zagh
  refine Tot.bind (Zl8 a0 oa0) (fun x1 h2 => ?_)
  replace h2 : (x1 = true → 0 ≤ a0.Zone ∧ a0.Zone ≤ 5 ∧ 0 ≤ a0.Who ∧ a0.Who ≤ 2 ∧ 0 ≤ a0.Self ∧ a0.Self ≤ 2 ∧ 0 ≤ a0.Tap ∧ a0.Tap ≤ 2 ∧ 0 ≤ a0.Power.Kind ∧ a0.Power.Kind ≤ 3 ∧ 0 ≤ a0.Tough.Kind ∧ a0.Tough.Kind ≤ 3 ∧ 0 ≤ a0.Value.Kind ∧ a0.Value.Kind ≤ 3) := h2
  have eh2_0 := h2
  refine Tot.bif (fun h3 => ?_) (fun h3 => ?_)
  ·have h3_0 := eh2_0 h3
   exact Tot.inr trivial
  ·exact Tot.inr trivial
 ·intro s
  cases s
abbrev Zba9 : Zm8 → Prop := fun _ => True
abbrev Zbfz : Zm8 → M6 := fun _ => (0, 0, 0, 0, 0, 0)
theorem Zbba (a0 : Za1) (oa0 : Zha a0) : Tot (Zaev a0) (fun r => True) := by
 unfold Zaev
 refine Tot.fin (Inv := Zba9) (μ := Zbfz) (m := (1000000, 0, 0, 0, 0, 0)) ?_ ?_
 ·unfold Zagi
  refine Tot.ine (fun h1 => ?_) (fun h1 => ?_)
  ·exact Tot.inr trivial
  ·refine Tot.bind (Z86 a0.Filter oa0) (fun x2 h3 => ?_)
   refine Tot.not (fun h4 => ?_) (fun h4 => ?_)
   ·exact Tot.inr trivial
   ·refine Tot.ieq (fun h5 => ?_) (fun h5 => ?_)
    ·refine Tot.ieq (fun h6 => ?_) (fun h6 => ?_)
     ·refine Tot.ieq (fun h7 => ?_) (fun h7 => ?_)
      ·refine Tot.ieq (fun h8 => ?_) (fun h8 => ?_)
       ·exact Tot.inr trivial
       ·refine Tot.ieq (fun h9 => ?_) (fun h9 => ?_)
        ·exact Tot.inr trivial
        ·exact Tot.inr trivial
      ·exact Tot.inr trivial
     ·exact Tot.inr trivial
    ·refine Tot.ieq (fun h10 => ?_) (fun h10 => ?_)
     ·refine Tot.ieq (fun h11 => ?_) (fun h11 => ?_)
      ·refine Tot.ieq (fun h12 => ?_) (fun h12 => ?_)
       ·exact Tot.inr trivial
       ·exact Tot.inr trivial
      ·exact Tot.inr trivial
     ·refine Tot.ieq (fun h13 => ?_) (fun h13 => ?_)
      ·refine Tot.ieq (fun h14 => ?_) (fun h14 => ?_)
       ·refine Tot.dif (fun h15 => ?_) (fun h15 => ?_)
        ·refine Tot.dif (fun h16 => ?_) (fun h16 => ?_)
         ·refine Tot.dif (fun h17 => ?_) (fun h17 => ?_)
          ·exact Tot.inr trivial
          ·exact Tot.inr trivial
         ·exact Tot.inr trivial
        ·exact Tot.inr trivial
       ·exact Tot.inr trivial
      ·exact Tot.inr trivial
 ·intro s
  cases s
abbrev Zbbb : Zm9 → Prop := fun _ => True
abbrev Zbf0 : Zm9 → M6 := fun _ => (0, 0, 0, 0, 0, 0)
theorem Zbbc (a0 : Za1) (oa0 : Zha a0) : Tot (Zaew a0) (fun r => True) := by
 unfold Zaew
 refine Tot.fin (Inv := Zbbb) (μ := Zbf0) (m := (1000000, 0, 0, 0, 0, 0)) ?_ ?_
 ·unfold Zagj
  refine Tot.ine (fun h1 => ?_) (fun h1 => ?_)
  ·exact Tot.inr trivial
  ·refine Tot.ine (fun h2 => ?_) (fun h2 => ?_)
   ·exact Tot.inr trivial
   ·refine Tot.ieq (fun h3 => ?_) (fun h3 => ?_)
    ·refine Tot.dif (fun h4 => ?_) (fun h4 => ?_)
     ·exact Tot.inr trivial
     ·exact Tot.inr trivial
    ·refine Tot.ieq (fun h5 => ?_) (fun h5 => ?_)
     ·refine Tot.dif (fun h6 => ?_) (fun h6 => ?_)
      ·exact Tot.inr trivial
      ·exact Tot.inr trivial
     ·exact Tot.inr trivial
 ·intro s
  cases s
abbrev Zt1 : Zkt → Prop
 | .L0 E0 v3 v4 => (Zha E0)
 | .L1 E0 v3 => (Zha E0)
 | .L2 E0 v3 v4 v109 => (Zha E0)
abbrev Zxe : Zkt → M6
 | .L0 E0 v3 v4 => (0, 0, 0, 0, 0, 0)
 | .L1 E0 v3 => (0, 0, 0, 0, 0, 0)
 | .L2 E0 v3 v4 v109 => (0, 0, 0, 0, 0, 0)
theorem Zz4 (E0 : Za1) (v3 : Bool) (v4 : Bool) (v109 : Bool) (h : Zt1 (.L2 E0 v3 v4 v109)) : Tot (Zwg E0 v3 v4 v109) (Nx Zt1 Zxe (Zxe (.L2 E0 v3 v4 v109)) (fun r => True)) := by
 have ob30000000 := h
 unfold Zwg
 refine Tot.bif (fun h1 => ?_) (fun h1 => ?_)
 ·refine Tot.bif (fun h2 => ?_) (fun h2 => ?_)
  ·refine Tot.dif (fun h3 => ?_) (fun h3 => ?_)
   ·refine Tot.dif (fun h4 => ?_) (fun h4 => ?_)
    ·exact Tot.inr trivial
    ·exact Tot.inr trivial
   ·exact Tot.inr trivial
  ·exact Tot.inr trivial
 ·exact Tot.inr trivial
theorem Zut (E0 : Za1) (v3 : Bool) (h : Zt1 (.L1 E0 v3)) : Tot (Zsy E0 v3) (Nx Zt1 Zxe (Zxe (.L1 E0 v3)) (fun r => True)) := by
 have ob30000000 := h
 unfold Zsy
 refine Tot.ieq (fun h1 => ?_) (fun h1 => ?_)
 ·refine Tot.bind (Z86 E0.Filter ob30000000) (fun x2 h3 => ?_)
  refine Tot.bif (fun h4 => ?_) (fun h4 => ?_)
  ·exact Tot.inr trivial
  ·refine Tot.ieq (fun h5 => ?_) (fun h5 => ?_)
   ·exact Tot.inr trivial
   ·refine Tot.ieq (fun h6 => ?_) (fun h6 => ?_)
    ·exact Tot.inr trivial
    ·exact Tot.inr trivial
 ·refine Tot.ieq (fun h7 => ?_) (fun h7 => ?_)
  ·exact Tot.inr trivial
  ·refine Tot.ieq (fun h8 => ?_) (fun h8 => ?_)
   ·exact Tot.inr trivial
   ·exact Tot.inr trivial
theorem Zz5 (E0 : Za1) (v3 : Bool) (v4 : Bool) (h : Zt1 (.L0 E0 v3 v4)) : Tot (Zwh E0 v3 v4) (Nx Zt1 Zxe (Zxe (.L0 E0 v3 v4)) (fun r => True)) := by
 have ob30000000 := h
 unfold Zwh
 refine Tot.ieq (fun h1 => ?_) (fun h1 => ?_)
 ·refine Tot.ine (fun h2 => ?_) (fun h2 => ?_)
  ·refine Tot.ine (fun h3 => ?_) (fun h3 => ?_)
   ·refine Tot.ine (fun h4 => ?_) (fun h4 => ?_)
    ·refine Tot.ine (fun h5 => ?_) (fun h5 => ?_)
     ·exact Tot.inr trivial
     ·exact Tot.join (Zut E0 v3 ob30000000) (by unfold le6 lt6; dsimp only; omega)
    ·exact Tot.join (Zut E0 v3 ob30000000) (by unfold le6 lt6; dsimp only; omega)
   ·exact Tot.join (Zut E0 v3 ob30000000) (by unfold le6 lt6; dsimp only; omega)
  ·exact Tot.join (Zut E0 v3 ob30000000) (by unfold le6 lt6; dsimp only; omega)
 ·refine Tot.ieq (fun h6 => ?_) (fun h6 => ?_)
  ·refine Tot.bif (fun h7 => ?_) (fun h7 => ?_)
   ·refine Tot.ieq (fun h8 => ?_) (fun h8 => ?_)
    ·refine Tot.bind (Z86 E0.Filter ob30000000) (fun x9 h10 => ?_)
     exact Tot.inr trivial
    ·exact Tot.inr trivial
   ·exact Tot.inr trivial
  ·refine Tot.ieq (fun h11 => ?_) (fun h11 => ?_)
   ·refine Tot.ieq (fun h12 => ?_) (fun h12 => ?_)
    ·refine Tot.dif (fun h13 => ?_) (fun h13 => ?_)
     ·refine Tot.dif (fun h14 => ?_) (fun h14 => ?_)
      ·exact Tot.inr trivial
      ·exact Tot.inr trivial
     ·exact Tot.inr trivial
    ·refine Tot.ieq (fun h15 => ?_) (fun h15 => ?_)
     ·refine Tot.dif (fun h16 => ?_) (fun h16 => ?_)
      ·refine Tot.dif (fun h17 => ?_) (fun h17 => ?_)
       ·exact Tot.inr trivial
       ·exact Tot.inr trivial
      ·exact Tot.inr trivial
     ·exact Tot.inr trivial
   ·refine Tot.ieq (fun h18 => ?_) (fun h18 => ?_)
    ·exact Tot.join (Zz4 E0 v3 v4 (E0.On == 4) ob30000000) (by unfold le6 lt6; dsimp only; omega)
    ·refine Tot.ieq (fun h19 => ?_) (fun h19 => ?_)
     ·exact Tot.join (Zz4 E0 v3 v4 (E0.On == 5) ob30000000) (by unfold le6 lt6; dsimp only; omega)
     ·exact Tot.join (Zz4 E0 v3 v4 (E0.On == 10) ob30000000) (by unfold le6 lt6; dsimp only; omega)
theorem Zblw (a0 : Za1) (oa0 : Zha a0) : Tot (Zazw a0) (fun r => True) := by
 unfold Zazw
 refine Tot.fin (Inv := Zt1) (μ := Zxe) (m := (1000000, 0, 0, 0, 0, 0)) ?_ ?_
 ·unfold Zav9
  refine Tot.ieq (fun h1 => ?_) (fun h1 => ?_)
  ·refine Tot.bind (Zbba a0 oa0) (fun x2 h3 => ?_)
   exact Tot.inr trivial
  ·refine Tot.bind (Zbbc a0 oa0) (fun x4 h5 => ?_)
   refine Tot.not (fun h6 => ?_) (fun h6 => ?_)
   ·exact Tot.inr trivial
   ·refine Tot.ieq (fun h7 => ?_) (fun h7 => ?_)
    ·exact Tot.join (Zz5 a0 (eqTs (Zv a0.Filter) (Zv (⟨0, 0, 0, 0, 0, 0, 0, ([] : List UInt8), 0, 0, (⟨0, 0⟩ : Ze), (⟨0, 0⟩ : Ze), (⟨0, 0⟩ : Ze)⟩ : Zi))) true (show (Zha a0) from oa0)) (by unfold le6 lt6; dsimp only; omega)
    ·refine Tot.ieq (fun h8 => ?_) (fun h8 => ?_)
     ·exact Tot.join (Zz5 a0 (eqTs (Zv a0.Filter) (Zv (⟨0, 0, 0, 0, 0, 0, 0, ([] : List UInt8), 0, 0, (⟨0, 0⟩ : Ze), (⟨0, 0⟩ : Ze), (⟨0, 0⟩ : Ze)⟩ : Zi))) true (show (Zha a0) from oa0)) (by unfold le6 lt6; dsimp only; omega)
     ·exact Tot.join (Zz5 a0 (eqTs (Zv a0.Filter) (Zv (⟨0, 0, 0, 0, 0, 0, 0, ([] : List UInt8), 0, 0, (⟨0, 0⟩ : Ze), (⟨0, 0⟩ : Ze), (⟨0, 0⟩ : Ze)⟩ : Zi))) (a0.Do == 8) (show (Zha a0) from oa0)) (by unfold le6 lt6; dsimp only; omega)
 ·intro s hs
  cases s with
  | L0 E0 v3 v4 => exact Zz5 E0 v3 v4 hs
  | L1 E0 v3 => exact Zut E0 v3 hs
  | L2 E0 v3 v4 v109 => exact Zz4 E0 v3 v4 v109 hs
abbrev Zbf1 : Zoj → Prop := fun _ => True
abbrev Zbjq : Zoj → M6 := fun _ => (0, 0, 0, 0, 0, 0)
theorem Zbf2 (a0 : Zai) (oa0 : Zo6 a0) : Tot (Zaj2 a0) (fun r => True) := by
 unfold Zaj2
 refine Tot.fin (Inv := Zbf1) (μ := Zbjq) (m := (1000000, 0, 0, 0, 0, 0)) ?_ ?_
 ·unfold Zaj1
  refine Tot.not (fun h1 => ?_) (fun h1 => ?_)
  ·refine Tot.bif (fun h2 => ?_) (fun h2 => ?_)
   ·exact Tot.inr trivial
   ·exact Tot.inr trivial
  ·refine Tot.bind (Zl8 a0.Filter oa0) (fun x3 h4 => ?_)
   replace h4 : (x3 = true → 0 ≤ a0.Filter.Zone ∧ a0.Filter.Zone ≤ 5 ∧ 0 ≤ a0.Filter.Who ∧ a0.Filter.Who ≤ 2 ∧ 0 ≤ a0.Filter.Self ∧ a0.Filter.Self ≤ 2 ∧ 0 ≤ a0.Filter.Tap ∧ a0.Filter.Tap ≤ 2 ∧ 0 ≤ a0.Filter.Power.Kind ∧ a0.Filter.Power.Kind ≤ 3 ∧ 0 ≤ a0.Filter.Tough.Kind ∧ a0.Filter.Tough.Kind ≤ 3 ∧ 0 ≤ a0.Filter.Value.Kind ∧ a0.Filter.Value.Kind ≤ 3) := h4
   have eh4_0 := h4
   refine Tot.bif (fun h5 => ?_) (fun h5 => ?_)
   ·have h5_0 := eh4_0 h5
    refine Tot.ieq (fun h6 => ?_) (fun h6 => ?_)
    ·exact Tot.inr trivial
    ·refine Tot.ieq (fun h7 => ?_) (fun h7 => ?_)
     ·exact Tot.inr trivial
     ·exact Tot.inr trivial
   ·exact Tot.inr trivial
 ·intro s
  cases s
abbrev Z87 : Zke → Prop
 | .L0 v0 v3 => ((SzL 144 Zo6) v0) ∧ (0 ≤ v3)
abbrev Zxf : Zke → M6
 | .L0 v0 v3 => (1, ((v0.length : Int) - v3).toNat, 1000000, 0, 0, 0)
theorem Zayg (v0 : (List Zai)) (v3 : Int) (h : Z87 (.L0 v0 v3)) : Tot (Z2e v0 v3) (Nx Z87 Zxf (Zxf (.L0 v0 v3)) (fun r => True)) := by
 obtain ⟨ov0, cv3⟩ := h
 have lb_v0 := ov0.1
 unfold Z2e
 have q1 := ov0.1
 refine Tot.dif (fun h2 => ?_) (fun h2 => ?_)
 ·refine Tot.bind (Tot.idx (by omega) (by omega)) (fun x3 h4 => ?_)
  have oh4 : Zo6 x3 := ov0.2 x3 h4.1
  refine Tot.bind (Zbf2 x3 oh4) (fun x5 h6 => ?_)
  refine Tot.not (fun h7 => ?_) (fun h7 => ?_)
  ·exact Tot.inr trivial
  ·have q8 := Za3 (v3 + 1)
   have q9 := Za4 (v3 + 1)
   exact Tot.inl ⟨ov0, (by omega)⟩ (by unfold Zxf lt6; dsimp only; omega)
 ·exact Tot.inr trivial
theorem Zbbd (a0 : (List Zai)) (oa0 : (SzL 144 Zo6) a0) : Tot (Zaex a0) (fun r => True) := by
 unfold Zaex
 refine Tot.fin (Inv := Z87) (μ := Zxf) (m := (1000000, 0, 0, 0, 0, 0)) ?_ ?_
 ·have lb_a0 := oa0.1
  unfold Zagk
  exact Tot.inl ⟨oa0, (by omega)⟩ (by unfold Zxf lt6; dsimp only; omega)
 ·intro s hs
  cases s with
  | L0 v0 v3 => exact Zayg v0 v3 hs
abbrev Zbf3 : Zok → Prop := fun _ => True
abbrev Zbjr : Zok → M6 := fun _ => (0, 0, 0, 0, 0, 0)
theorem Zbf4 (a0 : Int) : Tot (Zaj4 a0) (fun r => (SzN r)) := by
 unfold Zaj4
 refine Tot.fin (Inv := Zbf3) (μ := Zbjr) (m := (1000000, 0, 0, 0, 0, 0)) ?_ ?_
 ·unfold Zaj3
  refine Tot.dif (fun h1 => ?_) (fun h1 => ?_)
  ·exact Tot.inr (show (SzN ([] : List UInt8)) from (SzN.nil))
  ·refine Tot.dif (fun h2 => ?_) (fun h2 => ?_)
   ·exact Tot.inr (show (SzN ([] : List UInt8)) from (SzN.nil))
   ·have q3 : (SzL 16 SzN) [([100, 97, 109, 97, 103, 101] : List UInt8), ([100, 101, 115, 116, 114, 111, 121] : List UInt8), ([109, 111, 118, 101] : List UInt8), ([100, 114, 97, 119] : List UInt8), ([100, 105, 115, 99, 97, 114, 100] : List UInt8), ([103, 97, 105, 110] : List UInt8), ([108, 111, 115, 101] : List UInt8), ([116, 97, 112] : List UInt8), ([117, 110, 116, 97, 112] : List UInt8), ([112, 117, 116] : List UInt8), ([116, 97, 107, 101] : List UInt8), ([99, 114, 101, 97, 116, 101] : List UInt8), ([109, 111, 100] : List UInt8), ([109, 97, 110, 97] : List UInt8), ([99, 111, 117, 110, 116, 101, 114] : List UInt8), ([99, 111, 112, 121] : List UInt8), ([98, 101, 99, 111, 109, 101] : List UInt8), ([115, 97, 99, 114, 105, 102, 105, 99, 101] : List UInt8), ([109, 105, 108, 108] : List UInt8), ([115, 99, 114, 121] : List UInt8), ([115, 101, 97, 114, 99, 104] : List UInt8), ([115, 104, 105, 101, 108, 100] : List UInt8), ([116, 117, 114, 110] : List UInt8), ([119, 105, 110] : List UInt8), ([100, 101, 102, 101, 97, 116] : List UInt8), ([118, 101, 110, 111, 109] : List UInt8)] := ⟨by simp only [List.length_cons, List.length_nil]; omega, (mem_cons' (by unfold SzN; first | omega | (simp only [List.length_append, List.length_cons, List.length_nil]; omega)) (mem_cons' (by unfold SzN; first | omega | (simp only [List.length_append, List.length_cons, List.length_nil]; omega)) (mem_cons' (by unfold SzN; first | omega | (simp only [List.length_append, List.length_cons, List.length_nil]; omega)) (mem_cons' (by unfold SzN; first | omega | (simp only [List.length_append, List.length_cons, List.length_nil]; omega)) (mem_cons' (by unfold SzN; first | omega | (simp only [List.length_append, List.length_cons, List.length_nil]; omega)) (mem_cons' (by unfold SzN; first | omega | (simp only [List.length_append, List.length_cons, List.length_nil]; omega)) (mem_cons' (by unfold SzN; first | omega | (simp only [List.length_append, List.length_cons, List.length_nil]; omega)) (mem_cons' (by unfold SzN; first | omega | (simp only [List.length_append, List.length_cons, List.length_nil]; omega)) (mem_cons' (by unfold SzN; first | omega | (simp only [List.length_append, List.length_cons, List.length_nil]; omega)) (mem_cons' (by unfold SzN; first | omega | (simp only [List.length_append, List.length_cons, List.length_nil]; omega)) (mem_cons' (by unfold SzN; first | omega | (simp only [List.length_append, List.length_cons, List.length_nil]; omega)) (mem_cons' (by unfold SzN; first | omega | (simp only [List.length_append, List.length_cons, List.length_nil]; omega)) (mem_cons' (by unfold SzN; first | omega | (simp only [List.length_append, List.length_cons, List.length_nil]; omega)) (mem_cons' (by unfold SzN; first | omega | (simp only [List.length_append, List.length_cons, List.length_nil]; omega)) (mem_cons' (by unfold SzN; first | omega | (simp only [List.length_append, List.length_cons, List.length_nil]; omega)) (mem_cons' (by unfold SzN; first | omega | (simp only [List.length_append, List.length_cons, List.length_nil]; omega)) (mem_cons' (by unfold SzN; first | omega | (simp only [List.length_append, List.length_cons, List.length_nil]; omega)) (mem_cons' (by unfold SzN; first | omega | (simp only [List.length_append, List.length_cons, List.length_nil]; omega)) (mem_cons' (by unfold SzN; first | omega | (simp only [List.length_append, List.length_cons, List.length_nil]; omega)) (mem_cons' (by unfold SzN; first | omega | (simp only [List.length_append, List.length_cons, List.length_nil]; omega)) (mem_cons' (by unfold SzN; first | omega | (simp only [List.length_append, List.length_cons, List.length_nil]; omega)) (mem_cons' (by unfold SzN; first | omega | (simp only [List.length_append, List.length_cons, List.length_nil]; omega)) (mem_cons' (by unfold SzN; first | omega | (simp only [List.length_append, List.length_cons, List.length_nil]; omega)) (mem_cons' (by unfold SzN; first | omega | (simp only [List.length_append, List.length_cons, List.length_nil]; omega)) (mem_cons' (by unfold SzN; first | omega | (simp only [List.length_append, List.length_cons, List.length_nil]; omega)) (mem_cons' (by unfold SzN; first | omega | (simp only [List.length_append, List.length_cons, List.length_nil]; omega)) (fun _ h => by cases h)))))))))))))))))))))))))))⟩
    have lq3 : [([100, 97, 109, 97, 103, 101] : List UInt8), ([100, 101, 115, 116, 114, 111, 121] : List UInt8), ([109, 111, 118, 101] : List UInt8), ([100, 114, 97, 119] : List UInt8), ([100, 105, 115, 99, 97, 114, 100] : List UInt8), ([103, 97, 105, 110] : List UInt8), ([108, 111, 115, 101] : List UInt8), ([116, 97, 112] : List UInt8), ([117, 110, 116, 97, 112] : List UInt8), ([112, 117, 116] : List UInt8), ([116, 97, 107, 101] : List UInt8), ([99, 114, 101, 97, 116, 101] : List UInt8), ([109, 111, 100] : List UInt8), ([109, 97, 110, 97] : List UInt8), ([99, 111, 117, 110, 116, 101, 114] : List UInt8), ([99, 111, 112, 121] : List UInt8), ([98, 101, 99, 111, 109, 101] : List UInt8), ([115, 97, 99, 114, 105, 102, 105, 99, 101] : List UInt8), ([109, 105, 108, 108] : List UInt8), ([115, 99, 114, 121] : List UInt8), ([115, 101, 97, 114, 99, 104] : List UInt8), ([115, 104, 105, 101, 108, 100] : List UInt8), ([116, 117, 114, 110] : List UInt8), ([119, 105, 110] : List UInt8), ([100, 101, 102, 101, 97, 116] : List UInt8), ([118, 101, 110, 111, 109] : List UInt8)].length = 26 := rfl
    have q4 := Za3 (a0 - 1)
    have q5 := Za4 (a0 - 1)
    refine Tot.bind (Tot.idx (by omega) (by omega)) (fun x6 h7 => ?_)
    have oh7 : SzN x6 := q3.2 x6 h7.1
    exact Tot.inr (show (SzN x6) from oh7)
 ·intro s
  cases s
abbrev Zxg : Zjm → Prop
 | .L0 v3 v4 => True
 | .L1 v3 v14 => True
abbrev Zy9 : Zjm → M6
 | .L0 v3 v4 => (0, 0, 0, 0, 0, 0)
 | .L1 v3 v14 => (0, 0, 0, 0, 0, 0)
theorem Z39 (v3 : Int) (v14 : Bool) (h : Zxg (.L1 v3 v14)) : Tot (Zux v3 v14) (Nx Zxg Zy9 (Zy9 (.L1 v3 v14)) (fun r => (SzN r))) := by
 unfold Zux
 refine Tot.bif (fun h1 => ?_) (fun h1 => ?_)
 ·exact Tot.inr (show (SzN ([114, 107, 97] : List UInt8)) from (by unfold SzN; first | omega | (simp only [List.length_append, List.length_cons, List.length_nil]; omega)))
 ·refine Tot.ieq (fun h2 => ?_) (fun h2 => ?_)
  ·exact Tot.inr (show (SzN ([114, 99, 97] : List UInt8)) from (by unfold SzN; first | omega | (simp only [List.length_append, List.length_cons, List.length_nil]; omega)))
  ·refine Tot.ieq (fun h3 => ?_) (fun h3 => ?_)
   ·exact Tot.inr (show (SzN ([114, 109] : List UInt8)) from (by unfold SzN; first | omega | (simp only [List.length_append, List.length_cons, List.length_nil]; omega)))
   ·refine Tot.ieq (fun h4 => ?_) (fun h4 => ?_)
    ·exact Tot.inr (show (SzN ([112] : List UInt8)) from (by unfold SzN; first | omega | (simp only [List.length_append, List.length_cons, List.length_nil]; omega)))
    ·refine Tot.ieq (fun h5 => ?_) (fun h5 => ?_)
     ·exact Tot.inr (show (SzN ([114, 97, 102] : List UInt8)) from (by unfold SzN; first | omega | (simp only [List.length_append, List.length_cons, List.length_nil]; omega)))
     ·refine Tot.ieq (fun h6 => ?_) (fun h6 => ?_)
      ·exact Tot.inr (show (SzN ([97] : List UInt8)) from (by unfold SzN; first | omega | (simp only [List.length_append, List.length_cons, List.length_nil]; omega)))
      ·refine Tot.ieq (fun h7 => ?_) (fun h7 => ?_)
       ·exact Tot.inr (show (SzN ([102] : List UInt8)) from (by unfold SzN; first | omega | (simp only [List.length_append, List.length_cons, List.length_nil]; omega)))
       ·refine Tot.ieq (fun h8 => ?_) (fun h8 => ?_)
        ·exact Tot.inr (show (SzN ([] : List UInt8)) from (SzN.nil))
        ·refine Tot.ieq (fun h9 => ?_) (fun h9 => ?_)
         ·exact Tot.inr (show (SzN ([] : List UInt8)) from (SzN.nil))
         ·exact Tot.inr (show (SzN ([114, 97] : List UInt8)) from (by unfold SzN; first | omega | (simp only [List.length_append, List.length_cons, List.length_nil]; omega)))
theorem Zj7 (v3 : Int) (v4 : Bool) (h : Zxg (.L0 v3 v4)) : Tot (Zkf v3 v4) (Nx Zxg Zy9 (Zy9 (.L0 v3 v4)) (fun r => (SzN r))) := by
 unfold Zkf
 refine Tot.bif (fun h1 => ?_) (fun h1 => ?_)
 ·exact Tot.inr (show (SzN ([114] : List UInt8)) from (by unfold SzN; first | omega | (simp only [List.length_append, List.length_cons, List.length_nil]; omega)))
 ·refine Tot.ieq (fun h2 => ?_) (fun h2 => ?_)
  ·exact Tot.inr (show (SzN ([114, 122] : List UInt8)) from (by unfold SzN; first | omega | (simp only [List.length_append, List.length_cons, List.length_nil]; omega)))
  ·refine Tot.ieq (fun h3 => ?_) (fun h3 => ?_)
   ·exact Tot.join (Z39 v3 (v3 == 10) trivial) (by unfold le6 lt6; dsimp only; omega)
   ·exact Tot.join (Z39 v3 (v3 == 11) trivial) (by unfold le6 lt6; dsimp only; omega)
theorem Zbf5 (a0 : Int) : Tot (Zaj6 a0) (fun r => (SzN r)) := by
 unfold Zaj6
 refine Tot.fin (Inv := Zxg) (μ := Zy9) (m := (1000000, 0, 0, 0, 0, 0)) ?_ ?_
 ·unfold Zaj5
  refine Tot.ieq (fun h1 => ?_) (fun h1 => ?_)
  ·exact Tot.join (Zj7 a0 (a0 == 2) trivial) (by unfold le6 lt6; dsimp only; omega)
  ·refine Tot.ieq (fun h2 => ?_) (fun h2 => ?_)
   ·exact Tot.join (Zj7 a0 (a0 == 8) trivial) (by unfold le6 lt6; dsimp only; omega)
   ·refine Tot.ieq (fun h3 => ?_) (fun h3 => ?_)
    ·exact Tot.join (Zj7 a0 (a0 == 9) trivial) (by unfold le6 lt6; dsimp only; omega)
    ·refine Tot.ieq (fun h4 => ?_) (fun h4 => ?_)
     ·exact Tot.join (Zj7 a0 (a0 == 15) trivial) (by unfold le6 lt6; dsimp only; omega)
     ·refine Tot.ieq (fun h5 => ?_) (fun h5 => ?_)
      ·exact Tot.join (Zj7 a0 (a0 == 16) trivial) (by unfold le6 lt6; dsimp only; omega)
      ·refine Tot.ieq (fun h6 => ?_) (fun h6 => ?_)
       ·exact Tot.join (Zj7 a0 (a0 == 17) trivial) (by unfold le6 lt6; dsimp only; omega)
       ·exact Tot.join (Zj7 a0 (a0 == 25) trivial) (by unfold le6 lt6; dsimp only; omega)
 ·intro s hs
  cases s with
  | L0 v3 v4 => exact Zj7 v3 v4 hs
  | L1 v3 v14 => exact Z39 v3 v14 hs
abbrev Zad6 : Zlm → Prop
 | .L0 v1 v5 v6 => (SzT v5) ∧ (0 ≤ v6)
abbrev Zza : Zlm → M6
 | .L0 v1 v5 v6 => (1, ((v5.length : Int) - v6).toNat, 1000000, 0, 0, 0)
theorem Za26 (v1 : Int) (v5 : (List UInt8)) (v6 : Int) (h : Zad6 (.L0 v1 v5 v6)) : Tot (Z6g v1 v5 v6) (Nx Zad6 Zza (Zza (.L0 v1 v5 v6)) (fun r => True)) := by
 obtain ⟨ov5, cv6⟩ := h
 have lb_v5 : v5.length ≤ 562949953421312 := ov5
 unfold Z6g
 have q1 : v5.length ≤ 562949953421312 := ov5
 refine Tot.dif (fun h2 => ?_) (fun h2 => ?_)
 ·refine Tot.bind (Tot.idx (by omega) (by omega)) (fun x3 h4 => ?_)
  refine Tot.ieq (fun h5 => ?_) (fun h5 => ?_)
  ·exact Tot.inr trivial
  ·have q6 := Za3 (v6 + 1)
   have q7 := Za4 (v6 + 1)
   exact Tot.inl ⟨ov5, (by omega)⟩ (by unfold Zza lt6; dsimp only; omega)
 ·exact Tot.inr trivial
theorem Zns (a0 : Int) (a1 : Int) : Tot (Zpg a0 a1) (fun r => True) := by
 unfold Zpg
 refine Tot.fin (Inv := Zad6) (μ := Zza) (m := (1000000, 0, 0, 0, 0, 0)) ?_ ?_
 ·unfold Zaj7
  refine Tot.bind (Zbf5 a0) (fun x1 h2 => ?_)
  replace h2 : (SzN x1) := h2
  exact Tot.inl ⟨(SzN.t h2), (by omega)⟩ (by unfold Zza lt6; dsimp only; omega)
 ·intro s hs
  cases s with
  | L0 v1 v5 v6 => exact Za26 v1 v5 v6 hs
abbrev Zayh : Zjn → Prop := fun _ => True
abbrev Za27 : Zjn → M6 := fun _ => (0, 0, 0, 0, 0, 0)
theorem Zayi (a0 : Int) : Tot (Z2f a0) (fun r => True) := by
 unfold Z2f
 refine Tot.fin (Inv := Zayh) (μ := Za27) (m := (1000000, 0, 0, 0, 0, 0)) ?_ ?_
 ·unfold Z45
  refine Tot.ieq (fun h1 => ?_) (fun h1 => ?_)
  ·exact Tot.inr trivial
  ·exact Tot.inr trivial
 ·intro s
  cases s
abbrev Z4a : Zmp → Prop
 | .L0 v1 E0 => (Z32 E0)
 | .L1 E0 => (Z32 E0)
abbrev Z7u : Zmp → M6
 | .L0 v1 E0 => (0, 0, 0, 0, 0, 0)
 | .L1 E0 => (0, 0, 0, 0, 0, 0)
theorem Z88 (E0 : Zgo) (h : Z4a (.L1 E0)) : Tot (Z1c E0) (Nx Z4a Z7u (Z7u (.L1 E0)) (fun r => True)) := by
 have ob30000000 := h
 unfold Z1c
 refine Tot.ieq (fun h1 => ?_) (fun h1 => ?_)
 ·refine Tot.bind (Zl8 E0.Filter ob30000000) (fun x2 h3 => ?_)
  replace h3 : (x2 = true → 0 ≤ E0.Filter.Zone ∧ E0.Filter.Zone ≤ 5 ∧ 0 ≤ E0.Filter.Who ∧ E0.Filter.Who ≤ 2 ∧ 0 ≤ E0.Filter.Self ∧ E0.Filter.Self ≤ 2 ∧ 0 ≤ E0.Filter.Tap ∧ E0.Filter.Tap ≤ 2 ∧ 0 ≤ E0.Filter.Power.Kind ∧ E0.Filter.Power.Kind ≤ 3 ∧ 0 ≤ E0.Filter.Tough.Kind ∧ E0.Filter.Tough.Kind ≤ 3 ∧ 0 ≤ E0.Filter.Value.Kind ∧ E0.Filter.Value.Kind ≤ 3) := h3
  have eh3_0 := h3
  exact Tot.inr trivial
 ·exact Tot.inr trivial
theorem Z89 (v1 : Int) (E0 : Zgo) (h : Z4a (.L0 v1 E0)) : Tot (Z1d v1 E0) (Nx Z4a Z7u (Z7u (.L0 v1 E0)) (fun r => True)) := by
 have ob30000000 := h
 unfold Z1d
 refine Tot.dif (fun h1 => ?_) (fun h1 => ?_)
 ·exact Tot.inr trivial
 ·refine Tot.dif (fun h2 => ?_) (fun h2 => ?_)
  ·exact Tot.inr trivial
  ·refine Tot.bind (Zayi E0.Kind) (fun x3 h4 => ?_)
   refine Tot.bif (fun h5 => ?_) (fun h5 => ?_)
   ·refine Tot.dif (fun h6 => ?_) (fun h6 => ?_)
    ·exact Tot.inr trivial
    ·refine Tot.dif (fun h7 => ?_) (fun h7 => ?_)
     ·exact Tot.inr trivial
     ·exact Tot.join (Z88 E0 ob30000000) (by unfold le6 lt6; dsimp only; omega)
   ·refine Tot.ine (fun h8 => ?_) (fun h8 => ?_)
    ·exact Tot.inr trivial
    ·exact Tot.join (Z88 E0 ob30000000) (by unfold le6 lt6; dsimp only; omega)
theorem Zblx (a0 : Zgo) (a1 : Int) (oa0 : Z32 a0) : Tot (Zazx a0 a1) (fun r => True) := by
 unfold Zazx
 refine Tot.fin (Inv := Z4a) (μ := Z7u) (m := (1000000, 0, 0, 0, 0, 0)) ?_ ?_
 ·unfold Zawa
  refine Tot.dif (fun h1 => ?_) (fun h1 => ?_)
  ·exact Tot.join (Z89 4 a0 oa0) (by unfold le6 lt6; dsimp only; omega)
  ·exact Tot.join (Z89 a1 a0 oa0) (by unfold le6 lt6; dsimp only; omega)
 ·intro s hs
  cases s with
  | L0 v1 E0 => exact Z89 v1 E0 hs
  | L1 E0 => exact Z88 E0 hs
abbrev Zbf6 : Zol → Prop := fun _ => True
abbrev Zbjs : Zol → M6 := fun _ => (0, 0, 0, 0, 0, 0)
theorem Zars (a0 : Int) : Tot (Zabh a0) (fun r => (SzN r)) := by
 unfold Zabh
 refine Tot.fin (Inv := Zbf6) (μ := Zbjs) (m := (1000000, 0, 0, 0, 0, 0)) ?_ ?_
 ·unfold Zaj8
  refine Tot.ieq (fun h1 => ?_) (fun h1 => ?_)
  ·exact Tot.inr (show (SzN ([112, 108, 117, 115] : List UInt8)) from (by unfold SzN; first | omega | (simp only [List.length_append, List.length_cons, List.length_nil]; omega)))
  ·refine Tot.ieq (fun h2 => ?_) (fun h2 => ?_)
   ·exact Tot.inr (show (SzN ([109, 105, 110, 117, 115] : List UInt8)) from (by unfold SzN; first | omega | (simp only [List.length_append, List.length_cons, List.length_nil]; omega)))
   ·refine Tot.ieq (fun h3 => ?_) (fun h3 => ?_)
    ·exact Tot.inr (show (SzN ([99, 104, 97, 114, 103, 101] : List UInt8)) from (by unfold SzN; first | omega | (simp only [List.length_append, List.length_cons, List.length_nil]; omega)))
    ·exact Tot.inr (show (SzN ([] : List UInt8)) from (SzN.nil))
 ·intro s
  cases s
abbrev Zbly : Ztd → Prop := fun _ => True
abbrev Zbnt : Ztd → M6 := fun _ => (0, 0, 0, 0, 0, 0)
theorem Zblz (a0 : Zd3) (oa0 : Z8w a0) : Tot (Zazy a0) (fun r => True) := by
 unfold Zazy
 refine Tot.fin (Inv := Zbly) (μ := Zbnt) (m := (1000000, 0, 0, 0, 0, 0)) ?_ ?_
 ·unfold Zawb
  refine Tot.ieq (fun h1 => ?_) (fun h1 => ?_)
  ·refine Tot.dif (fun h2 => ?_) (fun h2 => ?_)
   ·exact Tot.inr trivial
   ·refine Tot.dif (fun h3 => ?_) (fun h3 => ?_)
    ·exact Tot.inr trivial
    ·refine Tot.dif (fun h4 => ?_) (fun h4 => ?_)
     ·refine Tot.dif (fun h5 => ?_) (fun h5 => ?_)
      ·exact Tot.inr trivial
      ·exact Tot.inr trivial
     ·exact Tot.inr trivial
  ·refine Tot.ieq (fun h6 => ?_) (fun h6 => ?_)
   ·refine Tot.dif (fun h7 => ?_) (fun h7 => ?_)
    ·exact Tot.inr trivial
    ·refine Tot.dif (fun h8 => ?_) (fun h8 => ?_)
     ·exact Tot.inr trivial
     ·refine Tot.bind (Zl8 a0.Filter oa0) (fun x9 h10 => ?_)
      replace h10 : (x9 = true → 0 ≤ a0.Filter.Zone ∧ a0.Filter.Zone ≤ 5 ∧ 0 ≤ a0.Filter.Who ∧ a0.Filter.Who ≤ 2 ∧ 0 ≤ a0.Filter.Self ∧ a0.Filter.Self ≤ 2 ∧ 0 ≤ a0.Filter.Tap ∧ a0.Filter.Tap ≤ 2 ∧ 0 ≤ a0.Filter.Power.Kind ∧ a0.Filter.Power.Kind ≤ 3 ∧ 0 ≤ a0.Filter.Tough.Kind ∧ a0.Filter.Tough.Kind ≤ 3 ∧ 0 ≤ a0.Filter.Value.Kind ∧ a0.Filter.Value.Kind ≤ 3) := h10
      have eh10_0 := h10
      refine Tot.not (fun h11 => ?_) (fun h11 => ?_)
      ·exact Tot.inr trivial
      ·have h11_0 := eh10_0 h11
       refine Tot.dif (fun h12 => ?_) (fun h12 => ?_)
       ·refine Tot.dif (fun h13 => ?_) (fun h13 => ?_)
        ·exact Tot.inr trivial
        ·exact Tot.inr trivial
       ·exact Tot.inr trivial
   ·refine Tot.ieq (fun h14 => ?_) (fun h14 => ?_)
    ·refine Tot.bind (Zars a0.Counter) (fun x15 h16 => ?_)
     replace h16 : (SzN x15) := h16
     refine Tot.bif (fun h17 => ?_) (fun h17 => ?_)
     ·exact Tot.inr trivial
     ·refine Tot.dif (fun h18 => ?_) (fun h18 => ?_)
      ·refine Tot.dif (fun h19 => ?_) (fun h19 => ?_)
       ·exact Tot.inr trivial
       ·exact Tot.inr trivial
      ·exact Tot.inr trivial
    ·refine Tot.dif (fun h20 => ?_) (fun h20 => ?_)
     ·refine Tot.dif (fun h21 => ?_) (fun h21 => ?_)
      ·exact Tot.inr trivial
      ·exact Tot.inr trivial
     ·exact Tot.inr trivial
 ·intro s
  cases s
abbrev Zbf7 : Zom → Prop := fun _ => True
abbrev Zbjt : Zom → M6 := fun _ => (0, 0, 0, 0, 0, 0)
theorem Zbf8 (a0 : (List Zg)) (oa0 : (SzL 176 Zat) a0) : Tot (Zaka a0) (fun r => True) := by
 unfold Zaka
 refine Tot.fin (Inv := Zbf7) (μ := Zbjt) (m := (1000000, 0, 0, 0, 0, 0)) ?_ ?_
 ·have lb_a0 := oa0.1
  unfold Zaj9
  refine Tot.bind (Z0w a0 oa0) (fun x1 h2 => ?_)
  replace h2 : (x1.length ≤ 4611686018427387904) := h2
  have eh2_0 := h2
  try simp only [List.length_nil, List.length_cons, Nat.zero_add] at eh2_0
  exact Tot.inr trivial
 ·intro s
  cases s
abbrev Zad7 : Zln → Prop
 | .L0 E0 E1 E2 v4 => (0 ≤ v4)
abbrev Zzb : Zln → M6
 | .L0 E0 E1 E2 v4 => (1, (5 - v4).toNat, 1000000, 0, 0, 0)
theorem Za28 (E0 : (A6 Int)) (E1 : Zah) (E2 : Zah) (v4 : Int) (h : Zad7 (.L0 E0 E1 E2 v4)) : Tot (Z6h E0 E1 E2 v4) (Nx Zad7 Zzb (Zzb (.L0 E0 E1 E2 v4)) (fun r => True)) := by
 have cv4 := h
 unfold Z6h
 refine Tot.dif (fun h1 => ?_) (fun h1 => ?_)
 ·have q2 := Za3 (v4 + 1)
  have q3 := Za4 (v4 + 1)
  refine Tot.bind (Tot.idx (by omega) (by have e : (A6.list E0).length = 6 := rfl; omega)) (fun x4 h5 => ?_)
  refine Tot.bind (Tot.idx (by omega) (by have e : (A5.list E2.Color).length = 5 := rfl; omega)) (fun x6 h7 => ?_)
  refine Tot.bind (Tot.setA5 (by omega) (by omega)) (fun x8 h9 => ?_)
  exact Tot.inl (by omega) (by unfold Zzb lt6; dsimp only; omega)
 ·exact Tot.inr trivial
theorem Zbf9 (a0 : (A6 Int)) : Tot (Zakc a0) (fun r => True) := by
 unfold Zakc
 refine Tot.fin (Inv := Zad7) (μ := Zzb) (m := (1000000, 0, 0, 0, 0, 0)) ?_ ?_
 ·unfold Zakb
  refine Tot.bind (Tot.idx (by omega) (by have e : (A6.list a0).length = 6 := rfl; omega)) (fun x1 h2 => ?_)
  exact Tot.inl (by omega) (by unfold Zzb lt6; dsimp only; omega)
 ·intro s hs
  cases s with
  | L0 E0 E1 E2 v4 => exact Za28 E0 E1 E2 v4 hs
abbrev Zpo : Zhp → Prop
 | .L0 E0 v3 v4 => (0 ≤ v4) ∧ (E0.X ≤ 2) ∧ (∀ n, n ∈ A5.list E0.Color → n ≤ 9) ∧ (v3.length ≤ v4.toNat) ∧ (v4 ≤ 2)
 | .L1 E0 v3 v5 => (0 ≤ v5) ∧ (v3.length ≤ 200 + 200 * v5.toNat) ∧ (∀ n, n ∈ A5.list E0.Color → n ≤ 9) ∧ (v5 ≤ 5)
 | .L2 E0 v3 v5 v6 => (0 ≤ v5) ∧ (0 ≤ v6) ∧ (v5 < 5) ∧ (v3.length ≤ 200 + 200 * v5.toNat + v6.toNat) ∧ (∀ n, n ∈ A5.list E0.Color → n ≤ 9) ∧ (v5 < 5) ∧ (v6 ≤ 9)
abbrev Zhg : Zhp → M6
 | .L0 E0 v3 v4 => (3, (E0.X - v4).toNat, 1000000, 0, 0, 0)
 | .L1 E0 v3 v5 => (1, (5 - v5).toNat, 1000000, 0, 0, 0)
 | .L2 E0 v3 v5 v6 => (1, (5 - v5).toNat, 1, (9 - v6).toNat, 1000000, 0)
theorem Za29 (E0 : Zah) (v3 : (List UInt8)) (v4 : Int) (h : Zpo (.L0 E0 v3 v4)) : Tot (Z6i E0 v3 v4) (Nx Zpo Zhg (Zhg (.L0 E0 v3 v4)) (fun r => (SzT r))) := by
 obtain ⟨cv4, i0, i1, i2, i3⟩ := h
 unfold Z6i
 refine Tot.dif (fun h1 => ?_) (fun h1 => ?_)
 ·refine Tot.bind (Tot.okd (by first | (simp only [List.length_append, List.length_cons, List.length_nil]; omega) | omega)) (fun x2 h3 => ?_)
  have q4 := Za3 (v4 + 1)
  have q5 := Za4 (v4 + 1)
  exact Tot.inl ⟨(by first | omega | (simp only [List.length_append, List.length_cons, List.length_nil]; omega) | trivial | decide | assumption | exact shl_ne' (by omega) (by omega) | (simp; done) | (simp; omega)), (by first | omega | (simp only [List.length_append, List.length_cons, List.length_nil]; omega) | trivial | decide | assumption | exact shl_ne' (by omega) (by omega) | (simp; done) | (simp; omega)), (by first | omega | (simp only [List.length_append, List.length_cons, List.length_nil]; omega) | trivial | decide | assumption | exact shl_ne' (by omega) (by omega) | (simp; done) | (simp; omega)), (by first | omega | (simp only [List.length_append, List.length_cons, List.length_nil]; omega) | trivial | decide | assumption | exact shl_ne' (by omega) (by omega) | (simp; done) | (simp; omega)), (by first | omega | (simp only [List.length_append, List.length_cons, List.length_nil]; omega) | trivial | decide | assumption | exact shl_ne' (by omega) (by omega) | (simp; done) | (simp; omega))⟩ (by unfold Zhg lt6; dsimp only; omega)
 ·refine Tot.ine (fun h6 => ?_) (fun h6 => ?_)
  ·refine Tot.bind (Zsg E0.Generic) (fun x7 h8 => ?_)
   replace h8 : (SzN x7) := h8
   have q9 : x7.length ≤ 100 := h8
   refine Tot.bind (Tot.okd (by first | (simp only [List.length_append, List.length_cons, List.length_nil]; omega) | omega)) (fun x10 h11 => ?_)
   exact Tot.inl ⟨(by first | omega | (simp only [List.length_append, List.length_cons, List.length_nil]; omega) | trivial | decide | assumption | exact shl_ne' (by omega) (by omega) | (simp; done) | (simp; omega)), (by first | omega | (simp only [List.length_append, List.length_cons, List.length_nil]; omega) | trivial | decide | assumption | exact shl_ne' (by omega) (by omega) | (simp; done) | (simp; omega)), (by first | omega | (simp only [List.length_append, List.length_cons, List.length_nil]; omega) | trivial | decide | assumption | exact shl_ne' (by omega) (by omega) | (simp; done) | (simp; omega)), (by first | omega | (simp only [List.length_append, List.length_cons, List.length_nil]; omega) | trivial | decide | assumption | exact shl_ne' (by omega) (by omega) | (simp; done) | (simp; omega))⟩ (by unfold Zhg lt6; dsimp only; omega)
  ·exact Tot.inl ⟨(by omega), (by omega), (by omega), (by omega)⟩ (by unfold Zhg lt6; dsimp only; omega)
theorem Za3a (E0 : Zah) (v3 : (List UInt8)) (v5 : Int) (h : Zpo (.L1 E0 v3 v5)) : Tot (Z6j E0 v3 v5) (Nx Zpo Zhg (Zhg (.L1 E0 v3 v5)) (fun r => (SzT r))) := by
 obtain ⟨cv5, i0, i1, i2⟩ := h
 unfold Z6j
 refine Tot.dif (fun h1 => ?_) (fun h1 => ?_)
 ·exact Tot.inl ⟨(by omega), (by omega), (by omega), (by omega), (by omega), (by omega), (by omega)⟩ (by unfold Zhg lt6; dsimp only; omega)
 ·refine Tot.bif (fun h2 => ?_) (fun h2 => ?_)
  ·exact Tot.inr (show (SzT ([48] : List UInt8)) from (by unfold SzT; first | omega | (simp only [List.length_append, List.length_cons, List.length_nil]; omega)))
  ·exact Tot.inr (show (SzT v3) from (by unfold SzT; first | omega | (simp only [List.length_append, List.length_cons, List.length_nil]; omega)))
theorem Za3b (E0 : Zah) (v3 : (List UInt8)) (v5 : Int) (v6 : Int) (h : Zpo (.L2 E0 v3 v5 v6)) : Tot (Z6k E0 v3 v5 v6) (Nx Zpo Zhg (Zhg (.L2 E0 v3 v5 v6)) (fun r => (SzT r))) := by
 obtain ⟨cv5, cv6, bd2, i0, i1, i2, i3⟩ := h
 unfold Z6k
 refine Tot.bind (Tot.idx (by omega) (by have e : (A5.list E0.Color).length = 5 := rfl; omega)) (fun x1 h2 => ?_)
 have ph2 := i1 x1 h2.1
 refine Tot.dif (fun h3 => ?_) (fun h3 => ?_)
 ·have q4 := Za3 (v5 + 1)
  have q5 := Za4 (v5 + 1)
  refine Tot.bind ((by  exact Tot.slice (by omega) (by omega) (by first | omega | (simp only [List.length_cons, List.length_nil]; omega)))) (fun x6 h7 => ?_)
  have lh7 := h7.1
  refine Tot.bind (Tot.okd (by first | (simp only [List.length_append, List.length_cons, List.length_nil]; omega) | omega)) (fun x8 h9 => ?_)
  have q10 := Za3 (v6 + 1)
  have q11 := Za4 (v6 + 1)
  exact Tot.inl ⟨(by first | omega | (simp only [List.length_append, List.length_cons, List.length_nil]; omega) | trivial | decide | assumption | exact shl_ne' (by omega) (by omega) | (simp; done) | (simp; omega)), (by first | omega | (simp only [List.length_append, List.length_cons, List.length_nil]; omega) | trivial | decide | assumption | exact shl_ne' (by omega) (by omega) | (simp; done) | (simp; omega)), (by first | omega | (simp only [List.length_append, List.length_cons, List.length_nil]; omega) | trivial | decide | assumption | exact shl_ne' (by omega) (by omega) | (simp; done) | (simp; omega)), (by first | omega | (simp only [List.length_append, List.length_cons, List.length_nil]; omega) | trivial | decide | assumption | exact shl_ne' (by omega) (by omega) | (simp; done) | (simp; omega)), (by first | omega | (simp only [List.length_append, List.length_cons, List.length_nil]; omega) | trivial | decide | assumption | exact shl_ne' (by omega) (by omega) | (simp; done) | (simp; omega)), (by first | omega | (simp only [List.length_append, List.length_cons, List.length_nil]; omega) | trivial | decide | assumption | exact shl_ne' (by omega) (by omega) | (simp; done) | (simp; omega)), (by first | omega | (simp only [List.length_append, List.length_cons, List.length_nil]; omega) | trivial | decide | assumption | exact shl_ne' (by omega) (by omega) | (simp; done) | (simp; omega))⟩ (by unfold Zhg lt6; dsimp only; omega)
 ·have q12 := Za3 (v5 + 1)
  have q13 := Za4 (v5 + 1)
  exact Tot.inl ⟨(by omega), (by omega), (by omega), (by omega)⟩ (by unfold Zhg lt6; dsimp only; omega)
theorem Zbga (a0 : Zah) : Tot (Zake a0) (fun r => (SzT r)) := by
 unfold Zake
 refine Tot.fin (Inv := Zpo) (μ := Zhg) (m := (1000000, 0, 0, 0, 0, 0)) ?_ ?_
 ·unfold Zakd
  refine Tot.bind (Zal3 a0) (fun x1 h2 => ?_)
  replace h2 : (x1 = true → a0.X ≤ 2) ∧ (x1 = true → ∀ n, n ∈ A5.list a0.Color → n ≤ 9) := h2
  have eh2_0 := h2.1
  have eh2_1 := h2.2
  refine Tot.not (fun h3 => ?_) (fun h3 => ?_)
  ·exact Tot.inr (show (SzT ([] : List UInt8)) from (SzT.nil))
  ·have h3_0 := eh2_0 h3
   have h3_1 := eh2_1 h3
   exact Tot.inl ⟨(by first | omega | (simp only [List.length_append, List.length_cons, List.length_nil]; omega) | trivial | decide | assumption | exact shl_ne' (by omega) (by omega) | (simp; done) | (simp; omega)), (by first | omega | (simp only [List.length_append, List.length_cons, List.length_nil]; omega) | trivial | decide | assumption | exact shl_ne' (by omega) (by omega) | (simp; done) | (simp; omega)), (by first | omega | (simp only [List.length_append, List.length_cons, List.length_nil]; omega) | trivial | decide | assumption | exact shl_ne' (by omega) (by omega) | (simp; done) | (simp; omega)), (by first | omega | (simp only [List.length_append, List.length_cons, List.length_nil]; omega) | trivial | decide | assumption | exact shl_ne' (by omega) (by omega) | (simp; done) | (simp; omega)), (by first | omega | (simp only [List.length_append, List.length_cons, List.length_nil]; omega) | trivial | decide | assumption | exact shl_ne' (by omega) (by omega) | (simp; done) | (simp; omega))⟩ (by unfold Zhg lt6; dsimp only; omega)
 ·intro s hs
  cases s with
  | L0 E0 v3 v4 => exact Za29 E0 v3 v4 hs
  | L1 E0 v3 v5 => exact Za3a E0 v3 v5 hs
  | L2 E0 v3 v5 v6 => exact Za3b E0 v3 v5 v6 hs
abbrev Zayj : Zjo → Prop := fun _ => True
abbrev Za3c : Zjo → M6 := fun _ => (0, 0, 0, 0, 0, 0)
theorem Zayk (a0 : (A6 Int)) : Tot (Z2g a0) (fun r => (SzT r)) := by
 unfold Z2g
 refine Tot.fin (Inv := Zayj) (μ := Za3c) (m := (1000000, 0, 0, 0, 0, 0)) ?_ ?_
 ·unfold Z46
  refine Tot.bind (Zbf9 a0) (fun x1 h2 => ?_)
  refine Tot.bind (Zbga x1) (fun x3 h4 => ?_)
  replace h4 : (SzT x3) := h4
  exact Tot.inr (show (SzT x3) from h4)
 ·intro s
  cases s
abbrev Za6n : Zlo → Prop := fun _ => True
abbrev Zbbe : Zlo → M6 := fun _ => (0, 0, 0, 0, 0, 0)
theorem Za6o (a0 : Int) (a1 : Zi) (oa1 : Zcv a1) : Tot (Z94 a0 a1) (fun r => True) := by
 unfold Z94
 refine Tot.fin (Inv := Za6n) (μ := Zbbe) (m := (1000000, 0, 0, 0, 0, 0)) ?_ ?_
 ·unfold Zabi
  refine Tot.ieq (fun h1 => ?_) (fun h1 => ?_)
  ·refine Tot.bind (Zl8 a1 oa1) (fun x2 h3 => ?_)
   replace h3 : (x2 = true → 0 ≤ a1.Zone ∧ a1.Zone ≤ 5 ∧ 0 ≤ a1.Who ∧ a1.Who ≤ 2 ∧ 0 ≤ a1.Self ∧ a1.Self ≤ 2 ∧ 0 ≤ a1.Tap ∧ a1.Tap ≤ 2 ∧ 0 ≤ a1.Power.Kind ∧ a1.Power.Kind ≤ 3 ∧ 0 ≤ a1.Tough.Kind ∧ a1.Tough.Kind ≤ 3 ∧ 0 ≤ a1.Value.Kind ∧ a1.Value.Kind ≤ 3) := h3
   have eh3_0 := h3
   refine Tot.bif (fun h4 => ?_) (fun h4 => ?_)
   ·have h4_0 := eh3_0 h4
    exact Tot.inr trivial
   ·exact Tot.inr trivial
  ·refine Tot.bind (Zl8 a1 oa1) (fun x5 h6 => ?_)
   replace h6 : (x5 = true → 0 ≤ a1.Zone ∧ a1.Zone ≤ 5 ∧ 0 ≤ a1.Who ∧ a1.Who ≤ 2 ∧ 0 ≤ a1.Self ∧ a1.Self ≤ 2 ∧ 0 ≤ a1.Tap ∧ a1.Tap ≤ 2 ∧ 0 ≤ a1.Power.Kind ∧ a1.Power.Kind ≤ 3 ∧ 0 ≤ a1.Tough.Kind ∧ a1.Tough.Kind ≤ 3 ∧ 0 ≤ a1.Value.Kind ∧ a1.Value.Kind ≤ 3) := h6
   have eh6_0 := h6
   refine Tot.bif (fun h7 => ?_) (fun h7 => ?_)
   ·have h7_0 := eh6_0 h7
    exact Tot.inr trivial
   ·exact Tot.inr trivial
 ·intro s
  cases s
abbrev Zgh : Zfh → Prop
 | .L0 E0 v5 => (Za7 E0)
 | .L1 E0 v5 v6 => (Za7 E0)
 | .L2 E0 v5 v6 v7 => (Za7 E0)
 | .L3 E0 v5 v6 v7 v8 => (Za7 E0)
 | .L4 E0 v5 v6 v7 v8 v9 => (Za7 E0)
 | .L5 E0 v5 v6 v7 v8 v9 v10 => (Za7 E0)
 | .L6 E0 v5 v6 v7 v8 v9 v10 v11 => (Za7 E0)
 | .L7 v5 v6 v7 v8 v9 v10 v11 v12 => True
abbrev Zhn : Zfh → M6
 | .L0 E0 v5 => (0, 0, 0, 0, 0, 0)
 | .L1 E0 v5 v6 => (0, 0, 0, 0, 0, 0)
 | .L2 E0 v5 v6 v7 => (0, 0, 0, 0, 0, 0)
 | .L3 E0 v5 v6 v7 v8 => (0, 0, 0, 0, 0, 0)
 | .L4 E0 v5 v6 v7 v8 v9 => (0, 0, 0, 0, 0, 0)
 | .L5 E0 v5 v6 v7 v8 v9 v10 => (0, 0, 0, 0, 0, 0)
 | .L6 E0 v5 v6 v7 v8 v9 v10 v11 => (0, 0, 0, 0, 0, 0)
 | .L7 v5 v6 v7 v8 v9 v10 v11 v12 => (0, 0, 0, 0, 0, 0)
theorem Z9a (v5 : Bool) (v6 : Bool) (v7 : Bool) (v8 : Bool) (v9 : Bool) (v10 : Bool) (v11 : Bool) (v12 : Bool) (h : Zgh (.L7 v5 v6 v7 v8 v9 v10 v11 v12)) : Tot (Z1e v5 v6 v7 v8 v9 v10 v11 v12) (Nx Zgh Zhn (Zhn (.L7 v5 v6 v7 v8 v9 v10 v11 v12)) (fun r => True)) := by
 unfold Z1e
 refine Tot.bif (fun h1 => ?_) (fun h1 => ?_)
 ·refine Tot.bif (fun h2 => ?_) (fun h2 => ?_)
  ·refine Tot.bif (fun h3 => ?_) (fun h3 => ?_)
   ·refine Tot.bif (fun h4 => ?_) (fun h4 => ?_)
    ·refine Tot.bif (fun h5 => ?_) (fun h5 => ?_)
     ·refine Tot.bif (fun h6 => ?_) (fun h6 => ?_)
      ·refine Tot.bif (fun h7 => ?_) (fun h7 => ?_)
       ·exact Tot.inr trivial
       ·exact Tot.inr trivial
      ·exact Tot.inr trivial
     ·exact Tot.inr trivial
    ·exact Tot.inr trivial
   ·exact Tot.inr trivial
  ·exact Tot.inr trivial
 ·exact Tot.inr trivial
theorem Zz6 (E0 : Zj) (v5 : Bool) (v6 : Bool) (v7 : Bool) (v8 : Bool) (v9 : Bool) (v10 : Bool) (v11 : Bool) (h : Zgh (.L6 E0 v5 v6 v7 v8 v9 v10 v11)) : Tot (Zwi E0 v5 v6 v7 v8 v9 v10 v11) (Nx Zgh Zhn (Zhn (.L6 E0 v5 v6 v7 v8 v9 v10 v11)) (fun r => True)) := by
 have ob30000000 := h
 unfold Zwi
 refine Tot.bind (Zns E0.Op 102) (fun x1 h2 => ?_)
 refine Tot.bif (fun h3 => ?_) (fun h3 => ?_)
 ·refine Tot.bind (Za6o E0.Op E0.Filter ob30000000.2.2.2.1) (fun x4 h5 => ?_)
  exact Tot.join (Z9a v5 v6 v7 v8 v9 v10 v11 x4 trivial) (by unfold le6 lt6; dsimp only; omega)
 ·exact Tot.join (Z9a v5 v6 v7 v8 v9 v10 v11 (eqTs (Zv E0.Filter) (Zv (⟨0, 0, 0, 0, 0, 0, 0, ([] : List UInt8), 0, 0, (⟨0, 0⟩ : Ze), (⟨0, 0⟩ : Ze), (⟨0, 0⟩ : Ze)⟩ : Zi))) trivial) (by unfold le6 lt6; dsimp only; omega)
theorem Z9b (E0 : Zj) (v5 : Bool) (v6 : Bool) (v7 : Bool) (v8 : Bool) (v9 : Bool) (v10 : Bool) (h : Zgh (.L5 E0 v5 v6 v7 v8 v9 v10)) : Tot (Z1f E0 v5 v6 v7 v8 v9 v10) (Nx Zgh Zhn (Zhn (.L5 E0 v5 v6 v7 v8 v9 v10)) (fun r => True)) := by
 have ob30000000 := h
 unfold Z1f
 refine Tot.bind (Zns E0.Op 112) (fun x1 h2 => ?_)
 refine Tot.bif (fun h3 => ?_) (fun h3 => ?_)
 ·refine Tot.not (fun h4 => ?_) (fun h4 => ?_)
  ·refine Tot.bind (Zayk E0.Pool) (fun x5 h6 => ?_)
   replace h6 : (SzT x5) := h6
   exact Tot.join (Zz6 E0 v5 v6 v7 v8 v9 v10 (!(x5 == ([] : List UInt8))) (show (Za7 E0) from ob30000000)) (by unfold le6 lt6; dsimp only; omega)
  ·exact Tot.join (Zz6 E0 v5 v6 v7 v8 v9 v10 false ob30000000) (by unfold le6 lt6; dsimp only; omega)
 ·exact Tot.join (Zz6 E0 v5 v6 v7 v8 v9 v10 (eqTs ((cA6 (cI .i64)) E0.Pool) ((cA6 (cI .i64)) (⟨0, 0, 0, 0, 0, 0⟩ : (A6 Int)))) (show (Za7 E0) from ob30000000)) (by unfold le6 lt6; dsimp only; omega)
theorem Z9c (E0 : Zj) (v5 : Bool) (v6 : Bool) (v7 : Bool) (v8 : Bool) (v9 : Bool) (h : Zgh (.L4 E0 v5 v6 v7 v8 v9)) : Tot (Z1g E0 v5 v6 v7 v8 v9) (Nx Zgh Zhn (Zhn (.L4 E0 v5 v6 v7 v8 v9)) (fun r => True)) := by
 have ob30000000 := h
 unfold Z1g
 have q1 := ob30000000.2.2.2.2.1
 refine Tot.bind (Zns E0.Op 109) (fun x2 h3 => ?_)
 refine Tot.bif (fun h4 => ?_) (fun h4 => ?_)
 ·refine Tot.bind (Zbf8 E0.Mods ob30000000.2.2.2.2) (fun x5 h6 => ?_)
  exact Tot.join (Z9b E0 v5 v6 v7 v8 v9 x5 ob30000000) (by unfold le6 lt6; dsimp only; omega)
 ·exact Tot.join (Z9b E0 v5 v6 v7 v8 v9 ((E0.Mods.length : Int) == 0) (show (Za7 E0) from ob30000000)) (by unfold le6 lt6; dsimp only; omega)
theorem Z9d (E0 : Zj) (v5 : Bool) (v6 : Bool) (v7 : Bool) (v8 : Bool) (h : Zgh (.L3 E0 v5 v6 v7 v8)) : Tot (Z1h E0 v5 v6 v7 v8) (Nx Zgh Zhn (Zhn (.L3 E0 v5 v6 v7 v8)) (fun r => True)) := by
 have ob30000000 := h
 unfold Z1h
 refine Tot.bind (Zns E0.Op 97) (fun x1 h2 => ?_)
 refine Tot.bif (fun h3 => ?_) (fun h3 => ?_)
 ·refine Tot.bind (Zblz E0.Amount ob30000000.2.1) (fun x4 h5 => ?_)
  exact Tot.join (Z9c E0 v5 v6 v7 v8 x4 ob30000000) (by unfold le6 lt6; dsimp only; omega)
 ·exact Tot.join (Z9c E0 v5 v6 v7 v8 (eqTs (Zb2 E0.Amount) (Zb2 (⟨0, 0, 0, (⟨0, 0, 0, 0, 0, 0, 0, ([] : List UInt8), 0, 0, (⟨0, 0⟩ : Ze), (⟨0, 0⟩ : Ze), (⟨0, 0⟩ : Ze)⟩ : Zi)⟩ : Zd3))) (show (Za7 E0) from ob30000000)) (by unfold le6 lt6; dsimp only; omega)
theorem Zz7 (E0 : Zj) (v5 : Bool) (v6 : Bool) (v7 : Bool) (h : Zgh (.L2 E0 v5 v6 v7)) : Tot (Zwj E0 v5 v6 v7) (Nx Zgh Zhn (Zhn (.L2 E0 v5 v6 v7)) (fun r => True)) := by
 have ob30000000 := h
 unfold Zwj
 refine Tot.bind (Zns E0.Op 99) (fun x1 h2 => ?_)
 refine Tot.bif (fun h3 => ?_) (fun h3 => ?_)
 ·refine Tot.bind (Zal2 E0.Card (SzS.t ob30000000.2.2.1)) (fun x4 h5 => ?_)
  exact Tot.join (Z9d E0 v5 v6 v7 x4 ob30000000) (by unfold le6 lt6; dsimp only; omega)
 ·exact Tot.join (Z9d E0 v5 v6 v7 (E0.Card == ([] : List UInt8)) (show (Za7 E0) from ob30000000)) (by unfold le6 lt6; dsimp only; omega)
theorem Zuu (E0 : Zj) (v5 : Bool) (v6 : Bool) (h : Zgh (.L1 E0 v5 v6)) : Tot (Zsz E0 v5 v6) (Nx Zgh Zhn (Zhn (.L1 E0 v5 v6)) (fun r => True)) := by
 have ob30000000 := h
 unfold Zsz
 refine Tot.ieq (fun h1 => ?_) (fun h1 => ?_)
 ·exact Tot.join (Zz7 E0 v5 v6 true ob30000000) (by unfold le6 lt6; dsimp only; omega)
 ·refine Tot.bind (Zns E0.Op 107) (fun x2 h3 => ?_)
  refine Tot.bif (fun h4 => ?_) (fun h4 => ?_)
  ·refine Tot.bind (Zars E0.Counter) (fun x5 h6 => ?_)
   replace h6 : (SzN x5) := h6
   exact Tot.join (Zz7 E0 v5 v6 (!(x5 == ([] : List UInt8))) (show (Za7 E0) from ob30000000)) (by unfold le6 lt6; dsimp only; omega)
  ·exact Tot.join (Zz7 E0 v5 v6 false ob30000000) (by unfold le6 lt6; dsimp only; omega)
theorem Z9e (E0 : Zj) (v5 : Bool) (h : Zgh (.L0 E0 v5)) : Tot (Z1i E0 v5) (Nx Zgh Zhn (Zhn (.L0 E0 v5)) (fun r => True)) := by
 have ob30000000 := h
 unfold Z1i
 refine Tot.ieq (fun h1 => ?_) (fun h1 => ?_)
 ·exact Tot.join (Zuu E0 v5 true ob30000000) (by unfold le6 lt6; dsimp only; omega)
 ·refine Tot.bind (Zns E0.Op 122) (fun x2 h3 => ?_)
  refine Tot.bif (fun h4 => ?_) (fun h4 => ?_)
  ·refine Tot.dif (fun h5 => ?_) (fun h5 => ?_)
   ·exact Tot.join (Zuu E0 v5 (decide (E0.Zone ≤ 4)) (show (Za7 E0) from ob30000000)) (by unfold le6 lt6; dsimp only; omega)
   ·exact Tot.join (Zuu E0 v5 false ob30000000) (by unfold le6 lt6; dsimp only; omega)
  ·exact Tot.join (Zuu E0 v5 false ob30000000) (by unfold le6 lt6; dsimp only; omega)
theorem Zbl0 (a0 : Zj) (a1 : Int) (oa0 : Za7 a0) : Tot (Zaz0 a0 a1) (fun r => True) := by
 unfold Zaz0
 refine Tot.fin (Inv := Zgh) (μ := Zhn) (m := (1000000, 0, 0, 0, 0, 0)) ?_ ?_
 ·unfold Zawc
  refine Tot.bind (Zbf4 a0.Op) (fun x1 h2 => ?_)
  replace h2 : (SzN x1) := h2
  refine Tot.bif (fun h3 => ?_) (fun h3 => ?_)
  ·exact Tot.inr trivial
  ·refine Tot.bind (Zns a0.Op 114) (fun x4 h5 => ?_)
   refine Tot.bif (fun h6 => ?_) (fun h6 => ?_)
   ·refine Tot.bind (Zblx a0.Ref a1 oa0.1) (fun x7 h8 => ?_)
    exact Tot.join (Z9e a0 x7 oa0) (by unfold le6 lt6; dsimp only; omega)
   ·exact Tot.join (Z9e a0 (eqTs (Zfj a0.Ref) (Zfj (⟨0, 0, (⟨0, 0, 0, 0, 0, 0, 0, ([] : List UInt8), 0, 0, (⟨0, 0⟩ : Ze), (⟨0, 0⟩ : Ze), (⟨0, 0⟩ : Ze)⟩ : Zi)⟩ : Zgo))) (show (Za7 a0) from oa0)) (by unfold le6 lt6; dsimp only; omega)
 ·intro s hs
  cases s with
  | L0 E0 v5 => exact Z9e E0 v5 hs
  | L1 E0 v5 v6 => exact Zuu E0 v5 v6 hs
  | L2 E0 v5 v6 v7 => exact Zz7 E0 v5 v6 v7 hs
  | L3 E0 v5 v6 v7 v8 => exact Z9d E0 v5 v6 v7 v8 hs
  | L4 E0 v5 v6 v7 v8 v9 => exact Z9c E0 v5 v6 v7 v8 v9 hs
  | L5 E0 v5 v6 v7 v8 v9 v10 => exact Z9b E0 v5 v6 v7 v8 v9 v10 hs
  | L6 E0 v5 v6 v7 v8 v9 v10 v11 => exact Zz6 E0 v5 v6 v7 v8 v9 v10 v11 hs
  | L7 v5 v6 v7 v8 v9 v10 v11 v12 => exact Z9a v5 v6 v7 v8 v9 v10 v11 v12 hs
abbrev Z4b : Zhw → Prop
 | .L0 v0 v1 v5 => ((SzL 560 Za7) v0) ∧ (0 ≤ v5)
abbrev Zsh : Zhw → M6
 | .L0 v0 v1 v5 => (1, ((v0.length : Int) - v5).toNat, 1000000, 0, 0, 0)
theorem Zart (v0 : (List Zj)) (v1 : Int) (v5 : Int) (h : Z4b (.L0 v0 v1 v5)) : Tot (Zx0 v0 v1 v5) (Nx Z4b Zsh (Zsh (.L0 v0 v1 v5)) (fun r => True)) := by
 obtain ⟨ov0, cv5⟩ := h
 have lb_v0 := ov0.1
 unfold Zx0
 have q1 := ov0.1
 refine Tot.dif (fun h2 => ?_) (fun h2 => ?_)
 ·refine Tot.bind (Tot.idx (by omega) (by omega)) (fun x3 h4 => ?_)
  have oh4 : Za7 x3 := ov0.2 x3 h4.1
  refine Tot.bind (Zbl0 x3 v1 oh4) (fun x5 h6 => ?_)
  refine Tot.not (fun h7 => ?_) (fun h7 => ?_)
  ·exact Tot.inr trivial
  ·have q8 := Za3 (v5 + 1)
   have q9 := Za4 (v5 + 1)
   exact Tot.inl ⟨ov0, (by omega)⟩ (by unfold Zsh lt6; dsimp only; omega)
 ·refine Tot.dif (fun h10 => ?_) (fun h10 => ?_)
  ·exact Tot.inr trivial
  ·exact Tot.inr trivial
theorem Za3d (a0 : (List Zj)) (a1 : Int) (oa0 : (SzL 560 Za7) a0) : Tot (Z6l a0 a1) (fun r => True) := by
 unfold Z6l
 refine Tot.fin (Inv := Z4b) (μ := Zsh) (m := (1000000, 0, 0, 0, 0, 0)) ?_ ?_
 ·have lb_a0 := oa0.1
  unfold Z71
  exact Tot.inl ⟨oa0, (by omega)⟩ (by unfold Zsh lt6; dsimp only; omega)
 ·intro s hs
  cases s with
  | L0 v0 v1 v5 => exact Zart v0 v1 v5 hs
abbrev Zma : Zhq → Prop
 | .L0 E0 v3 => (Zdb E0)
 | .L1 E0 v3 => (Zdb E0)
 | .L2 E0 v3 => (Zdb E0)
 | .L3 E0 v3 => (Zdb E0)
 | .L4 E0 v3 => (Zdb E0)
abbrev Znt : Zhq → M6
 | .L0 E0 v3 => (0, 0, 0, 0, 0, 0)
 | .L1 E0 v3 => (0, 0, 0, 0, 0, 0)
 | .L2 E0 v3 => (0, 0, 0, 0, 0, 0)
 | .L3 E0 v3 => (0, 0, 0, 0, 0, 0)
 | .L4 E0 v3 => (0, 0, 0, 0, 0, 0)
theorem Z9f (E0 : Zq) (v3 : Bool) (h : Zma (.L4 E0 v3)) : Tot (Z1j E0 v3) (Nx Zma Znt (Znt (.L4 E0 v3)) (fun r => True)) := by
 have ob30000000 := h
 unfold Z1j
 refine Tot.bif (fun h1 => ?_) (fun h1 => ?_)
 ·refine Tot.bind (Zbbd E0.Specs ob30000000.2.2.2.1) (fun x2 h3 => ?_)
  refine Tot.bif (fun h4 => ?_) (fun h4 => ?_)
  ·have q5 := ob30000000.2.2.2.1.1
   refine Tot.bind (Za3d E0.Effects (E0.Specs.length : Int) ob30000000.2.2.2.2.1) (fun x6 h7 => ?_)
   exact Tot.inr trivial
  ·exact Tot.inr trivial
 ·have q8 := ob30000000.2.2.2.1.1
  refine Tot.ieq (fun h9 => ?_) (fun h9 => ?_)
  ·have q10 := ob30000000.2.2.2.2.1.1
   exact Tot.inr trivial
  ·exact Tot.inr trivial
theorem Z9g (E0 : Zq) (v3 : Bool) (h : Zma (.L3 E0 v3)) : Tot (Z1k E0 v3) (Nx Zma Znt (Znt (.L3 E0 v3)) (fun r => True)) := by
 have ob30000000 := h
 unfold Z1k
 refine Tot.ieq (fun h1 => ?_) (fun h1 => ?_)
 ·refine Tot.bind (Zblw E0.Replace ob30000000.2.2.2.2.2) (fun x2 h3 => ?_)
  refine Tot.not (fun h4 => ?_) (fun h4 => ?_)
  ·exact Tot.inr trivial
  ·exact Tot.join (Z9f E0 v3 ob30000000) (by unfold le6 lt6; dsimp only; omega)
 ·refine Tot.not (fun h5 => ?_) (fun h5 => ?_)
  ·exact Tot.inr trivial
  ·exact Tot.join (Z9f E0 v3 ob30000000) (by unfold le6 lt6; dsimp only; omega)
theorem Z9h (E0 : Zq) (v3 : Bool) (h : Zma (.L2 E0 v3)) : Tot (Z1l E0 v3) (Nx Zma Znt (Znt (.L2 E0 v3)) (fun r => True)) := by
 have ob30000000 := h
 unfold Z1l
 refine Tot.ieq (fun h1 => ?_) (fun h1 => ?_)
 ·refine Tot.bind (Zblv E0.Trigger ob30000000.2.2.1) (fun x2 h3 => ?_)
  refine Tot.not (fun h4 => ?_) (fun h4 => ?_)
  ·exact Tot.inr trivial
  ·exact Tot.join (Z9g E0 v3 ob30000000) (by unfold le6 lt6; dsimp only; omega)
 ·refine Tot.not (fun h5 => ?_) (fun h5 => ?_)
  ·exact Tot.inr trivial
  ·refine Tot.bif (fun h6 => ?_) (fun h6 => ?_)
   ·exact Tot.inr trivial
   ·exact Tot.join (Z9g E0 v3 ob30000000) (by unfold le6 lt6; dsimp only; omega)
theorem Z9i (E0 : Zq) (v3 : Bool) (h : Zma (.L1 E0 v3)) : Tot (Z1m E0 v3) (Nx Zma Znt (Znt (.L1 E0 v3)) (fun r => True)) := by
 have ob30000000 := h
 unfold Z1m
 refine Tot.ieq (fun h1 => ?_) (fun h1 => ?_)
 ·refine Tot.bind (Zba6 E0.Price) (fun x2 h3 => ?_)
  refine Tot.not (fun h4 => ?_) (fun h4 => ?_)
  ·exact Tot.inr trivial
  ·exact Tot.join (Z9h E0 v3 ob30000000) (by unfold le6 lt6; dsimp only; omega)
 ·refine Tot.not (fun h5 => ?_) (fun h5 => ?_)
  ·exact Tot.inr trivial
  ·refine Tot.bif (fun h6 => ?_) (fun h6 => ?_)
   ·exact Tot.inr trivial
   ·exact Tot.join (Z9h E0 v3 ob30000000) (by unfold le6 lt6; dsimp only; omega)
theorem Zz8 (E0 : Zq) (v3 : Bool) (h : Zma (.L0 E0 v3)) : Tot (Zwk E0 v3) (Nx Zma Znt (Znt (.L0 E0 v3)) (fun r => True)) := by
 have ob30000000 := h
 unfold Zwk
 refine Tot.ieq (fun h1 => ?_) (fun h1 => ?_)
 ·refine Tot.bind (Zl8 E0.Filter ob30000000.1) (fun x2 h3 => ?_)
  replace h3 : (x2 = true → 0 ≤ E0.Filter.Zone ∧ E0.Filter.Zone ≤ 5 ∧ 0 ≤ E0.Filter.Who ∧ E0.Filter.Who ≤ 2 ∧ 0 ≤ E0.Filter.Self ∧ E0.Filter.Self ≤ 2 ∧ 0 ≤ E0.Filter.Tap ∧ E0.Filter.Tap ≤ 2 ∧ 0 ≤ E0.Filter.Power.Kind ∧ E0.Filter.Power.Kind ≤ 3 ∧ 0 ≤ E0.Filter.Tough.Kind ∧ E0.Filter.Tough.Kind ≤ 3 ∧ 0 ≤ E0.Filter.Value.Kind ∧ E0.Filter.Value.Kind ≤ 3) := h3
  have eh3_0 := h3
  refine Tot.not (fun h4 => ?_) (fun h4 => ?_)
  ·exact Tot.inr trivial
  ·have h4_0 := eh3_0 h4
   refine Tot.ine (fun h5 => ?_) (fun h5 => ?_)
   ·exact Tot.inr trivial
   ·refine Tot.bind (Z0w E0.Mods ob30000000.2.1) (fun x6 h7 => ?_)
    replace h7 : (x6.length ≤ 4611686018427387904) := h7
    have eh7_0 := h7
    try simp only [List.length_nil, List.length_cons, Nat.zero_add] at eh7_0
    refine Tot.bif (fun h8 => ?_) (fun h8 => ?_)
    ·exact Tot.inr trivial
    ·exact Tot.join (Z9i E0 v3 ob30000000) (by unfold le6 lt6; dsimp only; omega)
 ·refine Tot.not (fun h9 => ?_) (fun h9 => ?_)
  ·exact Tot.inr trivial
  ·have q10 := ob30000000.2.1.1
   refine Tot.dif (fun h11 => ?_) (fun h11 => ?_)
   ·exact Tot.inr trivial
   ·exact Tot.join (Z9i E0 v3 ob30000000) (by unfold le6 lt6; dsimp only; omega)
theorem Zaan (a0 : Zq) (oa0 : Zdb a0) : Tot (Zabj a0) (fun r => True) := by
 unfold Zabj
 refine Tot.fin (Inv := Zma) (μ := Znt) (m := (1000000, 0, 0, 0, 0, 0)) ?_ ?_
 ·unfold Zawe
  refine Tot.dif (fun h1 => ?_) (fun h1 => ?_)
  ·exact Tot.inr trivial
  ·refine Tot.dif (fun h2 => ?_) (fun h2 => ?_)
   ·exact Tot.inr trivial
   ·refine Tot.ieq (fun h3 => ?_) (fun h3 => ?_)
    ·exact Tot.join (Zz8 a0 true oa0) (by unfold le6 lt6; dsimp only; omega)
    ·refine Tot.ieq (fun h4 => ?_) (fun h4 => ?_)
     ·exact Tot.join (Zz8 a0 true oa0) (by unfold le6 lt6; dsimp only; omega)
     ·exact Tot.join (Zz8 a0 (a0.Kind == 4) oa0) (by unfold le6 lt6; dsimp only; omega)
 ·intro s hs
  cases s with
  | L0 E0 v3 => exact Zz8 E0 v3 hs
  | L1 E0 v3 => exact Z9i E0 v3 hs
  | L2 E0 v3 => exact Z9h E0 v3 hs
  | L3 E0 v3 => exact Z9g E0 v3 hs
  | L4 E0 v3 => exact Z9f E0 v3 hs
abbrev Zbgb : Zon → Prop := fun _ => True
abbrev Zbju : Zon → M6 := fun _ => (0, 0, 0, 0, 0, 0)
theorem Zbgc (a0 : Zu) (oa0 : Zb8 a0) : Tot (Zakg a0) (fun r => True) := by
 unfold Zakg
 refine Tot.fin (Inv := Zbgb) (μ := Zbju) (m := (1000000, 0, 0, 0, 0, 0)) ?_ ?_
 ·unfold Zakf
  refine Tot.ieq (fun h1 => ?_) (fun h1 => ?_)
  ·exact Tot.inr trivial
  ·exact Tot.inr trivial
 ·intro s
  cases s
abbrev Z4c : Zmq → Prop
 | .L0 E0 => (Zb8 E0)
 | .L1 E0 v3 v4 => (Zb8 E0) ∧ (0 ≤ v4)
abbrev Zs5 : Zmq → M6
 | .L0 E0 => (2, 0, 0, 0, 0, 0)
 | .L1 E0 v3 v4 => (1, ((E0.Abilities.length : Int) - v4).toNat, 1000000, 0, 0, 0)
theorem Z9j (E0 : Zu) (h : Z4c (.L0 E0)) : Tot (Z1n E0) (Nx Z4c Zs5 (Zs5 (.L0 E0)) (fun r => True)) := by
 have ob30000000 := h
 unfold Z1n
 exact Tot.inl ⟨ob30000000, (by omega)⟩ (by unfold Zs5 lt6; dsimp only; omega)
theorem Zbbf (E0 : Zu) (v3 : Int) (v4 : Int) (h : Z4c (.L1 E0 v3 v4)) : Tot (Zaey E0 v3 v4) (Nx Z4c Zs5 (Zs5 (.L1 E0 v3 v4)) (fun r => True)) := by
 obtain ⟨ob30000000, cv4⟩ := h
 unfold Zaey
 have q1 := ob30000000.2.2.1
 refine Tot.dif (fun h2 => ?_) (fun h2 => ?_)
 ·refine Tot.bind (Tot.idx (by omega) (by omega)) (fun x3 h4 => ?_)
  have oh4 : Zdb x3 := ob30000000.2.2.2 x3 h4.1
  refine Tot.bind (Zaan x3 oh4) (fun x5 h6 => ?_)
  refine Tot.not (fun h7 => ?_) (fun h7 => ?_)
  ·exact Tot.inr trivial
  ·refine Tot.ieq (fun h8 => ?_) (fun h8 => ?_)
   ·have q9 := Za3 (v3 + 1)
    have q10 := Za4 (v3 + 1)
    have q11 := Za3 (v4 + 1)
    have q12 := Za4 (v4 + 1)
    exact Tot.inl ⟨ob30000000, (by omega)⟩ (by unfold Zs5 lt6; dsimp only; omega)
   ·have q13 := Za3 (v4 + 1)
    have q14 := Za4 (v4 + 1)
    exact Tot.inl ⟨ob30000000, (by omega)⟩ (by unfold Zs5 lt6; dsimp only; omega)
 ·refine Tot.bind (Zbgc E0 ob30000000) (fun x15 h16 => ?_)
  refine Tot.bif (fun h17 => ?_) (fun h17 => ?_)
  ·refine Tot.not (fun h18 => ?_) (fun h18 => ?_)
   ·refine Tot.ieq (fun h19 => ?_) (fun h19 => ?_)
    ·refine Tot.ieq (fun h20 => ?_) (fun h20 => ?_)
     ·exact Tot.inr trivial
     ·exact Tot.inr trivial
    ·exact Tot.inr trivial
   ·exact Tot.inr trivial
  ·refine Tot.ieq (fun h21 => ?_) (fun h21 => ?_)
   ·refine Tot.not (fun h22 => ?_) (fun h22 => ?_)
    ·refine Tot.ieq (fun h23 => ?_) (fun h23 => ?_)
     ·exact Tot.inr trivial
     ·exact Tot.inr trivial
    ·exact Tot.inr trivial
   ·exact Tot.inr trivial
theorem Zbl1 (a0 : Zu) (oa0 : Zb8 a0) : Tot (Zaz1 a0) (fun r => True) := by
 unfold Zaz1
 refine Tot.fin (Inv := Z4c) (μ := Zs5) (m := (1000000, 0, 0, 0, 0, 0)) ?_ ?_
 ·unfold Zawf
  refine Tot.bind (Zal2 a0.Name (SzS.t oa0.1)) (fun x1 h2 => ?_)
  refine Tot.not (fun h3 => ?_) (fun h3 => ?_)
  ·exact Tot.inr trivial
  ·refine Tot.bind (Zal3 a0.Cost) (fun x4 h5 => ?_)
   replace h5 : (x4 = true → a0.Cost.X ≤ 2) ∧ (x4 = true → ∀ n, n ∈ A5.list a0.Cost.Color → n ≤ 9) := h5
   have eh5_0 := h5.1
   have eh5_1 := h5.2
   refine Tot.not (fun h6 => ?_) (fun h6 => ?_)
   ·exact Tot.inr trivial
   ·have h6_0 := eh5_0 h6
    have h6_1 := eh5_1 h6
    refine Tot.bind (Zblr a0.Line oa0.2.1) (fun x7 h8 => ?_)
    refine Tot.not (fun h9 => ?_) (fun h9 => ?_)
    ·exact Tot.inr trivial
    ·refine Tot.bind (Za2r a0.Keys) (fun x10 h11 => ?_)
     refine Tot.not (fun h12 => ?_) (fun h12 => ?_)
     ·exact Tot.inr trivial
     ·refine Tot.dif (fun h13 => ?_) (fun h13 => ?_)
      ·exact Tot.inr trivial
      ·refine Tot.dif (fun h14 => ?_) (fun h14 => ?_)
       ·exact Tot.inr trivial
       ·refine Tot.dif (fun h15 => ?_) (fun h15 => ?_)
        ·exact Tot.inr trivial
        ·refine Tot.dif (fun h16 => ?_) (fun h16 => ?_)
         ·exact Tot.inr trivial
         ·refine Tot.dif (fun h17 => ?_) (fun h17 => ?_)
          ·exact Tot.inr trivial
          ·refine Tot.dif (fun h18 => ?_) (fun h18 => ?_)
           ·exact Tot.inr trivial
           ·refine Tot.bind (Zax4 a0 oa0) (fun x19 h20 => ?_)
            refine Tot.not (fun h21 => ?_) (fun h21 => ?_)
            ·refine Tot.ine (fun h22 => ?_) (fun h22 => ?_)
             ·exact Tot.inr trivial
             ·refine Tot.ine (fun h23 => ?_) (fun h23 => ?_)
              ·exact Tot.inr trivial
              ·have q24 := oa0.2.2.1
               refine Tot.dif (fun h25 => ?_) (fun h25 => ?_)
               ·exact Tot.inr trivial
               ·exact Tot.join (Z9j a0 oa0) (by unfold le6 lt6; dsimp only; omega)
            ·have q26 := oa0.2.2.1
             refine Tot.dif (fun h27 => ?_) (fun h27 => ?_)
             ·exact Tot.inr trivial
             ·exact Tot.join (Z9j a0 oa0) (by unfold le6 lt6; dsimp only; omega)
 ·intro s hs
  cases s with
  | L0 E0 => exact Z9j E0 hs
  | L1 E0 v3 v4 => exact Zbbf E0 v3 v4 hs
abbrev Zad8 : Zlp → Prop
 | .L0 v0 v1 v5 => ((SzL 176 Zb8) v0) ∧ (SzT v1) ∧ (0 ≤ v5)
abbrev Zzc : Zlp → M6
 | .L0 v0 v1 v5 => (1, ((v0.length : Int) - v5).toNat, 1000000, 0, 0, 0)
theorem Za3e (v0 : (List Zu)) (v1 : (List UInt8)) (v5 : Int) (h : Zad8 (.L0 v0 v1 v5)) : Tot (Z6m v0 v1 v5) (Nx Zad8 Zzc (Zzc (.L0 v0 v1 v5)) (fun r => True)) := by
 obtain ⟨ov0, ov1, cv5⟩ := h
 have lb_v0 := ov0.1
 have lb_v1 : v1.length ≤ 562949953421312 := ov1
 unfold Z6m
 have q1 := ov0.1
 refine Tot.dif (fun h2 => ?_) (fun h2 => ?_)
 ·refine Tot.bind (Tot.idx (by omega) (by omega)) (fun x3 h4 => ?_)
  have oh4 : Zb8 x3 := ov0.2 x3 h4.1
  refine Tot.bif (fun h5 => ?_) (fun h5 => ?_)
  ·exact Tot.inr trivial
  ·have q6 := Za3 (v5 + 1)
   have q7 := Za4 (v5 + 1)
   exact Tot.inl ⟨ov0, ov1, (by omega)⟩ (by unfold Zzc lt6; dsimp only; omega)
 ·exact Tot.inr trivial
theorem Zbgd (a0 : (List Zu)) (a1 : (List UInt8)) (oa0 : (SzL 176 Zb8) a0) (oa1 : SzT a1) : Tot (Zaki a0 a1) (fun r => True) := by
 unfold Zaki
 refine Tot.fin (Inv := Zad8) (μ := Zzc) (m := (1000000, 0, 0, 0, 0, 0)) ?_ ?_
 ·have lb_a0 := oa0.1
  have lb_a1 : a1.length ≤ 562949953421312 := oa1
  unfold Zakh
  exact Tot.inl ⟨oa0, oa1, (by omega)⟩ (by unfold Zzc lt6; dsimp only; omega)
 ·intro s hs
  cases s with
  | L0 v0 v1 v5 => exact Za3e v0 v1 v5 hs
abbrev Z9k : Zkg → Prop
 | .L0 v0 v1 v5 => ((SzL 176 Zb8) v0) ∧ (SzT v1) ∧ (0 ≤ v5)
abbrev Zsi : Zkg → M6
 | .L0 v0 v1 v5 => (1, ((v0.length : Int) - v5).toNat, 1000000, 0, 0, 0)
theorem Zayl (v0 : (List Zu)) (v1 : (List UInt8)) (v5 : Int) (h : Z9k (.L0 v0 v1 v5)) : Tot (Z2h v0 v1 v5) (Nx Z9k Zsi (Zsi (.L0 v0 v1 v5)) (fun r => True)) := by
 obtain ⟨ov0, ov1, cv5⟩ := h
 have lb_v0 := ov0.1
 have lb_v1 : v1.length ≤ 562949953421312 := ov1
 unfold Z2h
 have q1 := ov0.1
 refine Tot.dif (fun h2 => ?_) (fun h2 => ?_)
 ·refine Tot.bind (Tot.idx (by omega) (by omega)) (fun x3 h4 => ?_)
  have oh4 : Zb8 x3 := ov0.2 x3 h4.1
  refine Tot.bif (fun h5 => ?_) (fun h5 => ?_)
  ·refine Tot.bif (fun h6 => ?_) (fun h6 => ?_)
   ·exact Tot.inr trivial
   ·have q7 := Za3 (v5 + 1)
    have q8 := Za4 (v5 + 1)
    exact Tot.inl ⟨ov0, ov1, (by omega)⟩ (by unfold Zsi lt6; dsimp only; omega)
  ·have q9 := Za3 (v5 + 1)
   have q10 := Za4 (v5 + 1)
   exact Tot.inl ⟨ov0, ov1, (by omega)⟩ (by unfold Zsi lt6; dsimp only; omega)
 ·exact Tot.inr trivial
theorem Zbbg (a0 : (List Zu)) (a1 : (List UInt8)) (oa0 : (SzL 176 Zb8) a0) (oa1 : SzT a1) : Tot (Zaez a0 a1) (fun r => True) := by
 unfold Zaez
 refine Tot.fin (Inv := Z9k) (μ := Zsi) (m := (1000000, 0, 0, 0, 0, 0)) ?_ ?_
 ·have lb_a0 := oa0.1
  have lb_a1 : a1.length ≤ 562949953421312 := oa1
  unfold Zagl
  exact Tot.inl ⟨oa0, oa1, (by omega)⟩ (by unfold Zsi lt6; dsimp only; omega)
 ·intro s hs
  cases s with
  | L0 v0 v1 v5 => exact Zayl v0 v1 v5 hs
abbrev Zqm : Zf8 → Prop
 | .L0 v0 E0 v5 => ((SzL 176 Zb8) v0) ∧ (Zb8 E0) ∧ (0 ≤ v5)
 | .L1 v0 E0 v5 v6 => ((SzL 176 Zb8) v0) ∧ (Zb8 E0) ∧ (0 ≤ v5) ∧ (0 ≤ v6) ∧ (v5 < (E0.Abilities.length : Int)) ∧ (v5 < (E0.Abilities.length : Int))
abbrev Zig : Zf8 → M6
 | .L0 v0 E0 v5 => (1, ((E0.Abilities.length : Int) - v5).toNat, 1000000, 0, 0, 0)
 | .L1 v0 E0 v5 v6 => (1, ((E0.Abilities.length : Int) - v5).toNat, 1, ((((E0.Abilities[v5.toNat]?).map fun x => x.Effects.length).getD 0 : Nat) - v6).toNat, 1000000, 0)
theorem Zaru (v0 : (List Zu)) (E0 : Zu) (v5 : Int) (h : Zqm (.L0 v0 E0 v5)) : Tot (Zx1 v0 E0 v5) (Nx Zqm Zig (Zig (.L0 v0 E0 v5)) (fun r => True)) := by
 obtain ⟨ov0, ob30000000, cv5⟩ := h
 have lb_v0 := ov0.1
 unfold Zx1
 have q1 := ob30000000.2.2.1
 refine Tot.dif (fun h2 => ?_) (fun h2 => ?_)
 ·exact Tot.inl ⟨ov0, ob30000000, (by omega), (by omega), (by omega), (by omega)⟩ (by unfold Zig lt6; dsimp only; omega)
 ·exact Tot.inr trivial
theorem Zarv (v0 : (List Zu)) (E0 : Zu) (v5 : Int) (v6 : Int) (h : Zqm (.L1 v0 E0 v5 v6)) : Tot (Zx2 v0 E0 v5 v6) (Nx Zqm Zig (Zig (.L1 v0 E0 v5 v6)) (fun r => True)) := by
 obtain ⟨ov0, ob30000000, cv5, cv6, bd4, i0⟩ := h
 have lb_v0 := ov0.1
 unfold Zx2
 have lx_0 := ob30000000.2.2.1
 refine Tot.bind (Tot.idx (by omega) (by omega)) (fun x1 h2 => ?_)
 have oh2 : Zdb x1 := ob30000000.2.2.2 x1 h2.1
 have mh2 : ((E0.Abilities[v5.toNat]?).map fun x => x.Effects.length).getD 0 = x1.Effects.length := by rw [h2.2]; rfl
 have q3 := oh2.2.2.2.2.1.1
 refine Tot.dif (fun h4 => ?_) (fun h4 => ?_)
 ·refine Tot.bind (Tot.idx (by omega) (by omega)) (fun x5 h6 => ?_)
  have oh6 : Za7 x5 := oh2.2.2.2.2.1.2 x5 h6.1
  refine Tot.ieq (fun h7 => ?_) (fun h7 => ?_)
  ·refine Tot.bind (Zbbg v0 x5.Card ov0 (SzS.t oh6.2.2.1)) (fun x8 h9 => ?_)
   refine Tot.not (fun h10 => ?_) (fun h10 => ?_)
   ·exact Tot.inr trivial
   ·have q11 := Za3 (v6 + 1)
    have q12 := Za4 (v6 + 1)
    exact Tot.inl ⟨ov0, ob30000000, (by omega), (by omega), (by omega), (by omega)⟩ (by unfold Zig lt6; dsimp only; omega)
  ·have q13 := Za3 (v6 + 1)
   have q14 := Za4 (v6 + 1)
   exact Tot.inl ⟨ov0, ob30000000, (by omega), (by omega), (by omega), (by omega)⟩ (by unfold Zig lt6; dsimp only; omega)
 ·have q15 := Za3 (v5 + 1)
  have q16 := Za4 (v5 + 1)
  exact Tot.inl ⟨ov0, ob30000000, (by omega)⟩ (by unfold Zig lt6; dsimp only; omega)
theorem Za3f (a0 : (List Zu)) (a1 : Zu) (oa0 : (SzL 176 Zb8) a0) (oa1 : Zb8 a1) : Tot (Z6n a0 a1) (fun r => True) := by
 unfold Z6n
 refine Tot.fin (Inv := Zqm) (μ := Zig) (m := (1000000, 0, 0, 0, 0, 0)) ?_ ?_
 ·have lb_a0 := oa0.1
  unfold Z72
  exact Tot.inl ⟨oa0, oa1, (by omega)⟩ (by unfold Zig lt6; dsimp only; omega)
 ·intro s hs
  cases s with
  | L0 v0 E0 v5 => exact Zaru v0 E0 v5 hs
  | L1 v0 E0 v5 v6 => exact Zarv v0 E0 v5 v6 hs
abbrev Z9l : Zkh → Prop
 | .L0 v0 v4 => ((SzL 176 Zb8) v0) ∧ (0 ≤ v4)
abbrev Zxh : Zkh → M6
 | .L0 v0 v4 => (1, ((v0.length : Int) - v4).toNat, 1000000, 0, 0, 0)
theorem Zaym (v0 : (List Zu)) (v4 : Int) (h : Z9l (.L0 v0 v4)) : Tot (Z2i v0 v4) (Nx Z9l Zxh (Zxh (.L0 v0 v4)) (fun r => True)) := by
 obtain ⟨ov0, cv4⟩ := h
 have lb_v0 := ov0.1
 unfold Z2i
 have q1 := ov0.1
 refine Tot.dif (fun h2 => ?_) (fun h2 => ?_)
 ·refine Tot.bind (Tot.idx (by omega) (by omega)) (fun x3 h4 => ?_)
  have oh4 : Zb8 x3 := ov0.2 x3 h4.1
  refine Tot.bind (Zbl1 x3 oh4) (fun x5 h6 => ?_)
  refine Tot.not (fun h7 => ?_) (fun h7 => ?_)
  ·exact Tot.inr trivial
  ·refine Tot.bind (Zbgd v0 x3.Name ov0 (SzS.t oh4.1)) (fun x8 h9 => ?_)
   refine Tot.dif (fun h10 => ?_) (fun h10 => ?_)
   ·exact Tot.inr trivial
   ·refine Tot.bind (Za3f v0 x3 ov0 oh4) (fun x11 h12 => ?_)
    refine Tot.not (fun h13 => ?_) (fun h13 => ?_)
    ·exact Tot.inr trivial
    ·have q14 := Za3 (v4 + 1)
     have q15 := Za4 (v4 + 1)
     exact Tot.inl ⟨ov0, (by omega)⟩ (by unfold Zxh lt6; dsimp only; omega)
 ·exact Tot.inr trivial
theorem Zbbh (a0 : (List Zu)) (oa0 : (SzL 176 Zb8) a0) : Tot (Zae0 a0) (fun r => True) := by
 unfold Zae0
 refine Tot.fin (Inv := Z9l) (μ := Zxh) (m := (1000000, 0, 0, 0, 0, 0)) ?_ ?_
 ·have lb_a0 := oa0.1
  unfold Zagm
  have q1 := oa0.1
  refine Tot.dif (fun h2 => ?_) (fun h2 => ?_)
  ·exact Tot.inr trivial
  ·exact Tot.inl ⟨oa0, (by omega)⟩ (by unfold Zxh lt6; dsimp only; omega)
 ·intro s hs
  cases s with
  | L0 v0 v4 => exact Zaym v0 v4 hs
abbrev Zbl2 : Zte → Prop := fun _ => True
abbrev Zbnu : Zte → M6 := fun _ => (0, 0, 0, 0, 0, 0)
theorem Zix (a0 : Int) (a1 : Int) (a2 : Int) : Tot (Znl a0 a1 a2) (fun r => True) := by
 unfold Znl
 refine Tot.fin (Inv := Zbl2) (μ := Zbnu) (m := (1000000, 0, 0, 0, 0, 0)) ?_ ?_
 ·unfold Zawh
  refine Tot.dif (fun h1 => ?_) (fun h1 => ?_)
  ·exact Tot.inr trivial
  ·exact Tot.inr trivial
 ·intro s
  cases s
abbrev Z9m : Zki → Prop
 | .L0 E0 v3 => (0 ≤ v3)
abbrev Zxi : Zki → M6
 | .L0 E0 v3 => (1, (6 - v3).toNat, 1000000, 0, 0, 0)
theorem Zayn (E0 : (A6 Int)) (v3 : Int) (h : Z9m (.L0 E0 v3)) : Tot (Z2j E0 v3) (Nx Z9m Zxi (Zxi (.L0 E0 v3)) (fun r => True)) := by
 have cv3 := h
 unfold Z2j
 refine Tot.dif (fun h1 => ?_) (fun h1 => ?_)
 ·refine Tot.bind (Tot.idx (by omega) (by have e : (A6.list E0).length = 6 := rfl; omega)) (fun x2 h3 => ?_)
  refine Tot.dif (fun h4 => ?_) (fun h4 => ?_)
  ·exact Tot.inr trivial
  ·refine Tot.bind (Tot.idx (by omega) (by have e : (A6.list E0).length = 6 := rfl; omega)) (fun x5 h6 => ?_)
   refine Tot.dif (fun h7 => ?_) (fun h7 => ?_)
   ·exact Tot.inr trivial
   ·have q8 := Za3 (v3 + 1)
    have q9 := Za4 (v3 + 1)
    exact Tot.inl (by omega) (by unfold Zxi lt6; dsimp only; omega)
 ·exact Tot.inr trivial
theorem Zbbi (a0 : (A6 Int)) : Tot (Zae1 a0) (fun r => True) := by
 unfold Zae1
 refine Tot.fin (Inv := Z9m) (μ := Zxi) (m := (1000000, 0, 0, 0, 0, 0)) ?_ ?_
 ·unfold Zagn
  exact Tot.inl (by omega) (by unfold Zxi lt6; dsimp only; omega)
 ·intro s hs
  cases s with
  | L0 E0 v3 => exact Zayn E0 v3 hs
abbrev Zanp (a0 : Zc) (a1 : Int) : Zkj → Prop
 | .L0 v1 E0 v5 => (E0 = a0) ∧ (Zap E0) ∧ (0 ≤ v5)
abbrev Z4d : Zkj → M6
 | .L0 v1 E0 v5 => (1, ((E0.Objects.length : Int) - v5).toNat, 1000000, 0, 0, 0)
theorem Zayo (a0 : Zc) (a1 : Int) (v1 : Int) (E0 : Zc) (v5 : Int) (h : (E0 = a0) ∧ (Zap E0) ∧ (0 ≤ v5)) : Tot (Zkk v1 E0 v5) (Nx (Zanp a0 a1) Z4d (1, ((E0.Objects.length : Int) - v5).toNat, 1000000, 0, 0, 0) (fun r => (r < (a0.Objects.length : Int)))) := by
 obtain ⟨al0, ob30000000, cv5⟩ := h
 subst al0
 unfold Zkk
 have q1 := ob30000000.2.1.1
 refine Tot.dif (fun h2 => ?_) (fun h2 => ?_)
 ·refine Tot.bind (Tot.idx (by omega) (by omega)) (fun x3 h4 => ?_)
  refine Tot.ieq (fun h5 => ?_) (fun h5 => ?_)
  ·exact Tot.inr (show (v5 < (E0.Objects.length : Int)) from (by omega))
  ·have q6 := Za3 (v5 + 1)
   have q7 := Za4 (v5 + 1)
   exact Tot.inl ⟨rfl, ob30000000, (by omega)⟩ (by unfold Z4d lt6; dsimp only; omega)
 ·exact Tot.inr (show ((-1) < (E0.Objects.length : Int)) from (by omega))
theorem Zbbj (a0 : Zc) (a1 : Int) (oa0 : Zap a0) : Tot (Z1o a0 a1) (fun r => (r < (a0.Objects.length : Int))) := by
 unfold Z1o
 refine Tot.fin (Inv := (Zanp a0 a1)) (μ := Z4d) (m := (1000000, 0, 0, 0, 0, 0)) ?_ ?_
 ·unfold Z6o
  exact Tot.inl ⟨rfl, oa0, (by omega)⟩ (by unfold Z4d lt6; dsimp only; omega)
 ·intro s hs
  cases s with
  | L0 v1 E0 v5 => exact Zayo a0 a1 v1 E0 v5 hs
abbrev Zbge : Zoo → Prop := fun _ => True
abbrev Zbjv : Zoo → M6 := fun _ => (0, 0, 0, 0, 0, 0)
theorem Zbgf (a0 : Zc) (a1 : Int) (oa0 : Zap a0) : Tot (Zabk a0 a1) (fun r => True) := by
 unfold Zabk
 refine Tot.fin (Inv := Zbge) (μ := Zbjv) (m := (1000000, 0, 0, 0, 0, 0)) ?_ ?_
 ·unfold Z95
  refine Tot.bind (Zbbj a0 a1 oa0) (fun x1 h2 => ?_)
  replace h2 : (x1 < (a0.Objects.length : Int)) := h2
  have eh2_0 := h2
  try simp only [List.length_nil, List.length_cons, Nat.zero_add] at eh2_0
  refine Tot.dif (fun h3 => ?_) (fun h3 => ?_)
  ·exact Tot.inr trivial
  ·refine Tot.bind (Tot.idx (by omega) (by omega)) (fun x4 h5 => ?_)
   exact Tot.inr trivial
 ·intro s
  cases s
abbrev Za6p : Zlq → Prop := fun _ => True
abbrev Zbbk : Zlq → M6 := fun _ => (0, 0, 0, 0, 0, 0)
theorem Zajb (a0 : Zc) (a1 : Int) (oa0 : Zap a0) : Tot (Ztf a0 a1) (fun r => True) := by
 unfold Ztf
 refine Tot.fin (Inv := Za6p) (μ := Zbbk) (m := (1000000, 0, 0, 0, 0, 0)) ?_ ?_
 ·unfold Z2k
  refine Tot.bind (Zbgf a0 a1 oa0) (fun x1 h2 => ?_)
  exact Tot.inr trivial
 ·intro s
  cases s
abbrev Z9n : Zkl → Prop
 | .L0 v0 v1 v5 v6 => ((SzL 8 (fun _ => True)) v0) ∧ (0 ≤ v6)
abbrev Zsj : Zkl → M6
 | .L0 v0 v1 v5 v6 => (1, ((v0.length : Int) - v6).toNat, 1000000, 0, 0, 0)
theorem Zayp (v0 : (List Int)) (v1 : Int) (v5 : Int) (v6 : Int) (h : Z9n (.L0 v0 v1 v5 v6)) : Tot (Zrn v0 v1 v5 v6) (Nx Z9n Zsj (Zsj (.L0 v0 v1 v5 v6)) (fun r => True)) := by
 obtain ⟨ov0, cv6⟩ := h
 have lb_v0 := ov0.1
 unfold Zrn
 have q1 := ov0.1
 refine Tot.dif (fun h2 => ?_) (fun h2 => ?_)
 ·refine Tot.bind (Tot.idx (by omega) (by omega)) (fun x3 h4 => ?_)
  refine Tot.ieq (fun h5 => ?_) (fun h5 => ?_)
  ·have q6 := Za3 (v5 + 1)
   have q7 := Za4 (v5 + 1)
   have q8 := Za3 (v6 + 1)
   have q9 := Za4 (v6 + 1)
   exact Tot.inl ⟨ov0, (by omega)⟩ (by unfold Zsj lt6; dsimp only; omega)
  ·have q10 := Za3 (v6 + 1)
   have q11 := Za4 (v6 + 1)
   exact Tot.inl ⟨ov0, (by omega)⟩ (by unfold Zsj lt6; dsimp only; omega)
 ·exact Tot.inr trivial
theorem Z9o (a0 : (List Int)) (a1 : Int) (oa0 : (SzL 8 (fun _ => True)) a0) : Tot (Zqb a0 a1) (fun r => True) := by
 unfold Zqb
 refine Tot.fin (Inv := Z9n) (μ := Zsj) (m := (1000000, 0, 0, 0, 0, 0)) ?_ ?_
 ·have lb_a0 := oa0.1
  unfold Z6p
  exact Tot.inl ⟨oa0, (by omega)⟩ (by unfold Zsj lt6; dsimp only; omega)
 ·intro s hs
  cases s with
  | L0 v0 v1 v5 v6 => exact Zayp v0 v1 v5 v6 hs
abbrev Zad9 : Zjp → Prop
 | .L0 v1 v2 v3 E0 v9 => ((SzL 8 (fun _ => True)) v1) ∧ (Zap E0) ∧ (0 ≤ v9)
abbrev Zu5 : Zjp → M6
 | .L0 v1 v2 v3 E0 v9 => (1, ((v1.length : Int) - v9).toNat, 1000000, 0, 0, 0)
theorem Za3g (v1 : (List Int)) (v2 : Int) (v3 : Int) (E0 : Zc) (v9 : Int) (h : Zad9 (.L0 v1 v2 v3 E0 v9)) : Tot (Zuy v1 v2 v3 E0 v9) (Nx Zad9 Zu5 (Zu5 (.L0 v1 v2 v3 E0 v9)) (fun r => True)) := by
 obtain ⟨ov1, ob30000000, cv9⟩ := h
 have lb_v1 := ov1.1
 unfold Zuy
 have q1 := ov1.1
 refine Tot.dif (fun h2 => ?_) (fun h2 => ?_)
 ·refine Tot.bind (Tot.idx (by omega) (by omega)) (fun x3 h4 => ?_)
  refine Tot.bind (Zajb E0 x3 ob30000000) (fun x5 h6 => ?_)
  refine Tot.not (fun h7 => ?_) (fun h7 => ?_)
  ·exact Tot.inr trivial
  ·refine Tot.ine (fun h8 => ?_) (fun h8 => ?_)
   ·exact Tot.inr trivial
   ·refine Tot.dif (fun h9 => ?_) (fun h9 => ?_)
    ·refine Tot.ine (fun h10 => ?_) (fun h10 => ?_)
     ·exact Tot.inr trivial
     ·refine Tot.bind (Z9o v1 x3 ov1) (fun x11 h12 => ?_)
      refine Tot.ine (fun h13 => ?_) (fun h13 => ?_)
      ·exact Tot.inr trivial
      ·have q14 := Za3 (v9 + 1)
       have q15 := Za4 (v9 + 1)
       exact Tot.inl ⟨ov1, ob30000000, (by omega)⟩ (by unfold Zu5 lt6; dsimp only; omega)
    ·refine Tot.bind (Z9o v1 x3 ov1) (fun x16 h17 => ?_)
     refine Tot.ine (fun h18 => ?_) (fun h18 => ?_)
     ·exact Tot.inr trivial
     ·have q19 := Za3 (v9 + 1)
      have q20 := Za4 (v9 + 1)
      exact Tot.inl ⟨ov1, ob30000000, (by omega)⟩ (by unfold Zu5 lt6; dsimp only; omega)
 ·exact Tot.inr trivial
theorem Zxj (a0 : Zc) (a1 : (List Int)) (a2 : Int) (a3 : Int) (oa0 : Zap a0) (oa1 : (SzL 8 (fun _ => True)) a1) : Tot (Zii a0 a1 a2 a3) (fun r => True) := by
 unfold Zii
 refine Tot.fin (Inv := Zad9) (μ := Zu5) (m := (1000000, 0, 0, 0, 0, 0)) ?_ ?_
 ·have lb_a1 := oa1.1
  unfold Z96
  exact Tot.inl ⟨oa1, oa0, (by omega)⟩ (by unfold Zu5 lt6; dsimp only; omega)
 ·intro s hs
  cases s with
  | L0 v1 v2 v3 E0 v9 => exact Za3g v1 v2 v3 E0 v9 hs
abbrev Z4e : Zhx → Prop
 | .L0 E0 v3 => (Zap E0) ∧ (0 ≤ v3)
abbrev Zsk : Zhx → M6
 | .L0 E0 v3 => (1, ((E0.Players.length : Int) - v3).toNat, 1000000, 0, 0, 0)
theorem Zarw (E0 : Zc) (v3 : Int) (h : Z4e (.L0 E0 v3)) : Tot (Zo8 E0 v3) (Nx Z4e Zsk (Zsk (.L0 E0 v3)) (fun r => True)) := by
 obtain ⟨ob30000000, cv3⟩ := h
 unfold Zo8
 have q1 := ob30000000.1.1
 refine Tot.dif (fun h2 => ?_) (fun h2 => ?_)
 ·refine Tot.bind (Tot.idx (by omega) (by omega)) (fun x3 h4 => ?_)
  have oh4 : Zmf x3 := ob30000000.1.2 x3 h4.1
  refine Tot.bind (Zix x3.Life (-1000000) 1000000) (fun x5 h6 => ?_)
  refine Tot.not (fun h7 => ?_) (fun h7 => ?_)
  ·exact Tot.inr trivial
  ·refine Tot.bind (Zix x3.Venom 0 1000000) (fun x8 h9 => ?_)
   refine Tot.not (fun h10 => ?_) (fun h10 => ?_)
   ·exact Tot.inr trivial
   ·refine Tot.bind (Zix x3.Lands 0 1000000) (fun x11 h12 => ?_)
    refine Tot.not (fun h13 => ?_) (fun h13 => ?_)
    ·exact Tot.inr trivial
    ·refine Tot.bind (Zbbi x3.Pool) (fun x14 h15 => ?_)
     refine Tot.not (fun h16 => ?_) (fun h16 => ?_)
     ·exact Tot.inr trivial
     ·refine Tot.bind (Zxj E0 x3.Library 2 v3 ob30000000 oh4.1) (fun x17 h18 => ?_)
      refine Tot.not (fun h19 => ?_) (fun h19 => ?_)
      ·exact Tot.inr trivial
      ·refine Tot.bind (Zxj E0 x3.Hand 1 v3 ob30000000 oh4.2.1) (fun x20 h21 => ?_)
       refine Tot.not (fun h22 => ?_) (fun h22 => ?_)
       ·exact Tot.inr trivial
       ·refine Tot.bind (Zxj E0 x3.Graveyard 3 v3 ob30000000 oh4.2.2) (fun x23 h24 => ?_)
        refine Tot.not (fun h25 => ?_) (fun h25 => ?_)
        ·exact Tot.inr trivial
        ·have q26 := Za3 (v3 + 1)
         have q27 := Za4 (v3 + 1)
         exact Tot.inl ⟨ob30000000, (by omega)⟩ (by unfold Zsk lt6; dsimp only; omega)
 ·refine Tot.bind (Zxj E0 E0.Battlefield 0 (-1) ob30000000 ob30000000.2.2.1) (fun x28 h29 => ?_)
  refine Tot.bif (fun h30 => ?_) (fun h30 => ?_)
  ·refine Tot.bind (Zxj E0 E0.Exile 4 (-1) ob30000000 ob30000000.2.2.2.1) (fun x31 h32 => ?_)
   exact Tot.inr trivial
  ·exact Tot.inr trivial
theorem Za3h (a0 : Zc) (oa0 : Zap a0) : Tot (Zqp a0) (fun r => True) := by
 unfold Zqp
 refine Tot.fin (Inv := Z4e) (μ := Zsk) (m := (1000000, 0, 0, 0, 0, 0)) ?_ ?_
 ·unfold Zzk
  have q1 := oa0.1.1
  refine Tot.bind (Zix (a0.Players.length : Int) 2 4) (fun x2 h3 => ?_)
  refine Tot.not (fun h4 => ?_) (fun h4 => ?_)
  ·exact Tot.inr trivial
  ·exact Tot.inl ⟨oa0, (by omega)⟩ (by unfold Zsk lt6; dsimp only; omega)
 ·intro s hs
  cases s with
  | L0 E0 v3 => exact Zarw E0 v3 hs
abbrev Za6q : Zlr → Prop := fun _ => True
abbrev Zbbl : Zlr → M6 := fun _ => (0, 0, 0, 0, 0, 0)
theorem Zmy (a0 : Zc) (a1 : Int) (oa0 : Zap a0) : Tot (Zna a0 a1) (fun r => True) := by
 unfold Zna
 refine Tot.fin (Inv := Za6q) (μ := Zbbl) (m := (1000000, 0, 0, 0, 0, 0)) ?_ ?_
 ·unfold Zabm
  have q1 := oa0.1.1
  have q2 := Za3 ((a0.Players.length : Int) - 1)
  have q3 := Za4 ((a0.Players.length : Int) - 1)
  refine Tot.bind (Zix a1 0 (IntKind.wrap .i64 ((a0.Players.length : Int) - 1))) (fun x4 h5 => ?_)
  exact Tot.inr trivial
 ·intro s
  cases s
abbrev Zal6 : Zph → Prop
 | .L0 E0 v3 => (0 ≤ v3)
abbrev Z7v : Zph → M6
 | .L0 E0 v3 => (1, (3 - v3).toNat, 1000000, 0, 0, 0)
theorem Zbbm (E0 : (A3 Int)) (v3 : Int) (h : Zal6 (.L0 E0 v3)) : Tot (Zae2 E0 v3) (Nx Zal6 Z7v (Z7v (.L0 E0 v3)) (fun r => True)) := by
 have cv3 := h
 unfold Zae2
 refine Tot.dif (fun h1 => ?_) (fun h1 => ?_)
 ·refine Tot.bind (Tot.idx (by omega) (by have e : (A3.list E0).length = 3 := rfl; omega)) (fun x2 h3 => ?_)
  refine Tot.dif (fun h4 => ?_) (fun h4 => ?_)
  ·exact Tot.inr trivial
  ·refine Tot.bind (Tot.idx (by omega) (by have e : (A3.list E0).length = 3 := rfl; omega)) (fun x5 h6 => ?_)
   refine Tot.dif (fun h7 => ?_) (fun h7 => ?_)
   ·exact Tot.inr trivial
   ·have q8 := Za3 (v3 + 1)
    have q9 := Za4 (v3 + 1)
    exact Tot.inl (by omega) (by unfold Z7v lt6; dsimp only; omega)
 ·exact Tot.inr trivial
theorem Zbl3 (a0 : (A3 Int)) : Tot (Zaz4 a0) (fun r => True) := by
 unfold Zaz4
 refine Tot.fin (Inv := Zal6) (μ := Z7v) (m := (1000000, 0, 0, 0, 0, 0)) ?_ ?_
 ·unfold Zawi
  exact Tot.inl (by omega) (by unfold Z7v lt6; dsimp only; omega)
 ·intro s hs
  cases s with
  | L0 E0 v3 => exact Zbbm E0 v3 hs
abbrev Zbgg : Zop → Prop := fun _ => True
abbrev Zbjw : Zop → M6 := fun _ => (0, 0, 0, 0, 0, 0)
theorem Zbgh (a0 : Zf) : Tot (Zakk a0) (fun r => True) := by
 unfold Zakk
 refine Tot.fin (Inv := Zbgg) (μ := Zbjw) (m := (1000000, 0, 0, 0, 0, 0)) ?_ ?_
 ·unfold Zakj
  exact Tot.inr trivial
 ·intro s
  cases s
abbrev Zbbn : Znb → Prop := fun _ => True
abbrev Zbgi : Znb → M6 := fun _ => (0, 0, 0, 0, 0, 0)
theorem Zbbo (a0 : Zf) : Tot (Zae3 a0) (fun r => True) := by
 unfold Zae3
 refine Tot.fin (Inv := Zbbn) (μ := Zbgi) (m := (1000000, 0, 0, 0, 0, 0)) ?_ ?_
 ·unfold Zago
  exact Tot.inr trivial
 ·intro s
  cases s
abbrev Zbl4 : Ztg → Prop := fun _ => True
abbrev Zbnv : Ztg → M6 := fun _ => (0, 0, 0, 0, 0, 0)
theorem Zbl5 (a0 : Zf) (a1 : Int) (a2 : Int) : Tot (Zaz5 a0 a1 a2) (fun r => True) := by
 unfold Zaz5
 refine Tot.fin (Inv := Zbl4) (μ := Zbnv) (m := (1000000, 0, 0, 0, 0, 0)) ?_ ?_
 ·unfold Zawj
  refine Tot.dif (fun h1 => ?_) (fun h1 => ?_)
  ·exact Tot.inr trivial
  ·refine Tot.dif (fun h2 => ?_) (fun h2 => ?_)
   ·exact Tot.inr trivial
   ·refine Tot.dif (fun h3 => ?_) (fun h3 => ?_)
    ·exact Tot.inr trivial
    ·refine Tot.dif (fun h4 => ?_) (fun h4 => ?_)
     ·exact Tot.inr trivial
     ·refine Tot.dif (fun h5 => ?_) (fun h5 => ?_)
      ·exact Tot.inr trivial
      ·refine Tot.dif (fun h6 => ?_) (fun h6 => ?_)
       ·exact Tot.inr trivial
       ·refine Tot.dif (fun h7 => ?_) (fun h7 => ?_)
        ·exact Tot.inr trivial
        ·refine Tot.dif (fun h8 => ?_) (fun h8 => ?_)
         ·exact Tot.inr trivial
         ·refine Tot.dif (fun h9 => ?_) (fun h9 => ?_)
          ·exact Tot.inr trivial
          ·refine Tot.dif (fun h10 => ?_) (fun h10 => ?_)
           ·exact Tot.inr trivial
           ·refine Tot.dif (fun h11 => ?_) (fun h11 => ?_)
            ·exact Tot.inr trivial
            ·refine Tot.dif (fun h12 => ?_) (fun h12 => ?_)
             ·exact Tot.inr trivial
             ·refine Tot.dif (fun h13 => ?_) (fun h13 => ?_)
              ·exact Tot.inr trivial
              ·refine Tot.dif (fun h14 => ?_) (fun h14 => ?_)
               ·exact Tot.inr trivial
               ·refine Tot.dif (fun h15 => ?_) (fun h15 => ?_)
                ·exact Tot.inr trivial
                ·refine Tot.dif (fun h16 => ?_) (fun h16 => ?_)
                 ·exact Tot.inr trivial
                 ·refine Tot.dif (fun h17 => ?_) (fun h17 => ?_)
                  ·exact Tot.inr trivial
                  ·refine Tot.bind (Zbl3 a0.Counters) (fun x18 h19 => ?_)
                   refine Tot.not (fun h20 => ?_) (fun h20 => ?_)
                   ·exact Tot.inr trivial
                   ·refine Tot.dif (fun h21 => ?_) (fun h21 => ?_)
                    ·exact Tot.inr trivial
                    ·refine Tot.dif (fun h22 => ?_) (fun h22 => ?_)
                     ·exact Tot.inr trivial
                     ·refine Tot.dif (fun h23 => ?_) (fun h23 => ?_)
                      ·exact Tot.inr trivial
                      ·refine Tot.dif (fun h24 => ?_) (fun h24 => ?_)
                       ·exact Tot.inr trivial
                       ·refine Tot.ieq (fun h25 => ?_) (fun h25 => ?_)
                        ·exact Tot.inr trivial
                        ·refine Tot.bind (Zbgh a0) (fun x26 h27 => ?_)
                         refine Tot.bif (fun h28 => ?_) (fun h28 => ?_)
                         ·refine Tot.bind (Zbbo a0) (fun x29 h30 => ?_)
                          refine Tot.bif (fun h31 => ?_) (fun h31 => ?_)
                          ·refine Tot.not (fun h32 => ?_) (fun h32 => ?_)
                           ·refine Tot.not (fun h33 => ?_) (fun h33 => ?_)
                            ·exact Tot.inr trivial
                            ·exact Tot.inr trivial
                           ·exact Tot.inr trivial
                          ·exact Tot.inr trivial
                         ·exact Tot.inr trivial
 ·intro s
  cases s
abbrev Z52 : Zi6 → Prop
 | .L0 v1 E0 v5 v6 => (Zap E0) ∧ (0 ≤ v6)
abbrev Zn9 : Zi6 → M6
 | .L0 v1 E0 v5 v6 => (1, ((E0.Stack.length : Int) - v6).toNat, 1000000, 0, 0, 0)
theorem Zat7 (v1 : Int) (E0 : Zc) (v5 : Int) (v6 : Int) (h : Z52 (.L0 v1 E0 v5 v6)) : Tot (Zzl v1 E0 v5 v6) (Nx Z52 Zn9 (Zn9 (.L0 v1 E0 v5 v6)) (fun r => True)) := by
 obtain ⟨ob30000000, cv6⟩ := h
 unfold Zzl
 have q1 := ob30000000.2.2.2.2.1.1
 refine Tot.dif (fun h2 => ?_) (fun h2 => ?_)
 ·refine Tot.bind (Tot.idx (by omega) (by omega)) (fun x3 h4 => ?_)
  have oh4 : Zld x3 := ob30000000.2.2.2.2.1.2 x3 h4.1
  refine Tot.ieq (fun h5 => ?_) (fun h5 => ?_)
  ·refine Tot.ieq (fun h6 => ?_) (fun h6 => ?_)
   ·have q7 := Za3 (v5 + 1)
    have q8 := Za4 (v5 + 1)
    have q9 := Za3 (v6 + 1)
    have q10 := Za4 (v6 + 1)
    exact Tot.inl ⟨ob30000000, (by omega)⟩ (by unfold Zn9 lt6; dsimp only; omega)
   ·have q11 := Za3 (v6 + 1)
    have q12 := Za4 (v6 + 1)
    exact Tot.inl ⟨ob30000000, (by omega)⟩ (by unfold Zn9 lt6; dsimp only; omega)
  ·have q13 := Za3 (v6 + 1)
   have q14 := Za4 (v6 + 1)
   exact Tot.inl ⟨ob30000000, (by omega)⟩ (by unfold Zn9 lt6; dsimp only; omega)
 ·exact Tot.inr trivial
theorem Za6r (a0 : Zc) (a1 : Int) (oa0 : Zap a0) : Tot (Z97 a0 a1) (fun r => True) := by
 unfold Z97
 refine Tot.fin (Inv := Z52) (μ := Zn9) (m := (1000000, 0, 0, 0, 0, 0)) ?_ ?_
 ·unfold Zabn
  exact Tot.inl ⟨oa0, (by omega)⟩ (by unfold Zn9 lt6; dsimp only; omega)
 ·intro s hs
  cases s with
  | L0 v1 E0 v5 v6 => exact Zat7 v1 E0 v5 v6 hs
abbrev Zbgj : Zoq → Prop := fun _ => True
abbrev Zbjx : Zoq → M6 := fun _ => (0, 0, 0, 0, 0, 0)
theorem Zxk (a0 : (List Int)) (oa0 : (SzL 8 (fun _ => True)) a0) : Tot (Zqq a0) (fun r => ((SzL 8 (fun _ => True)) r)) := by
 unfold Zqq
 refine Tot.fin (Inv := Zbgj) (μ := Zbjx) (m := (1000000, 0, 0, 0, 0, 0)) ?_ ?_
 ·have lb_a0 := oa0.1
  unfold Z98
  refine Tot.bind ((by have q3 : a0.length * 8 ≤ 140737488351232 := oa0.1;  exact Tot.app (by first | omega | (simp only [List.length_cons, List.length_nil]; omega)) (by decide))) (fun x1 h2 => ?_)
  have lh2 : x1.length = ([] : (List Int)).length + a0.length := by rw [h2, List.length_append]
  try simp only [List.length_cons, List.length_nil, Nat.zero_add] at lh2
  exact Tot.inr (show ((SzL 8 (fun _ => True)) x1) from ⟨by omega, fun _ _ => trivial⟩)
 ·intro s
  cases s
abbrev Zbgk : Zor → Prop := fun _ => True
abbrev Zbjy : Zor → M6 := fun _ => (0, 0, 0, 0, 0, 0)
theorem Zbgl (a0 : Zc) (a1 : Int) (a2 : Int) (oa0 : Zap a0) : Tot (Z48 a0 a1 a2) (fun r => ((SzL 8 (fun _ => True)) r)) := by
 unfold Z48
 refine Tot.fin (Inv := Zbgk) (μ := Zbjy) (m := (1000000, 0, 0, 0, 0, 0)) ?_ ?_
 ·unfold Z99
  refine Tot.ieq (fun h1 => ?_) (fun h1 => ?_)
  ·refine Tot.bind (Zxk a0.Battlefield oa0.2.2.1) (fun x2 h3 => ?_)
   replace h3 : ((SzL 8 (fun _ => True)) x2) := h3
   exact Tot.inr (show ((SzL 8 (fun _ => True)) x2) from h3)
  ·refine Tot.ieq (fun h4 => ?_) (fun h4 => ?_)
   ·refine Tot.bind (Zxk a0.Exile oa0.2.2.2.1) (fun x5 h6 => ?_)
    replace h6 : ((SzL 8 (fun _ => True)) x5) := h6
    exact Tot.inr (show ((SzL 8 (fun _ => True)) x5) from h6)
   ·refine Tot.dif (fun h7 => ?_) (fun h7 => ?_)
    ·exact Tot.inr (show ((SzL 8 (fun _ => True)) ([] : (List Int))) from SzL.nil)
    ·have q8 := oa0.1.1
     refine Tot.dif (fun h9 => ?_) (fun h9 => ?_)
     ·exact Tot.inr (show ((SzL 8 (fun _ => True)) ([] : (List Int))) from SzL.nil)
     ·refine Tot.ieq (fun h10 => ?_) (fun h10 => ?_)
      ·refine Tot.bind (Tot.idx (by omega) (by omega)) (fun x11 h12 => ?_)
       have oh12 : Zmf x11 := oa0.1.2 x11 h12.1
       refine Tot.bind (Zxk x11.Hand oh12.2.1) (fun x13 h14 => ?_)
       replace h14 : ((SzL 8 (fun _ => True)) x13) := h14
       exact Tot.inr (show ((SzL 8 (fun _ => True)) x13) from h14)
      ·refine Tot.ieq (fun h15 => ?_) (fun h15 => ?_)
       ·refine Tot.bind (Tot.idx (by omega) (by omega)) (fun x16 h17 => ?_)
        have oh17 : Zmf x16 := oa0.1.2 x16 h17.1
        refine Tot.bind (Zxk x16.Library oh17.1) (fun x18 h19 => ?_)
        replace h19 : ((SzL 8 (fun _ => True)) x18) := h19
        exact Tot.inr (show ((SzL 8 (fun _ => True)) x18) from h19)
       ·refine Tot.ieq (fun h20 => ?_) (fun h20 => ?_)
        ·refine Tot.bind (Tot.idx (by omega) (by omega)) (fun x21 h22 => ?_)
         have oh22 : Zmf x21 := oa0.1.2 x21 h22.1
         refine Tot.bind (Zxk x21.Graveyard oh22.2.2) (fun x23 h24 => ?_)
         replace h24 : ((SzL 8 (fun _ => True)) x23) := h24
         exact Tot.inr (show ((SzL 8 (fun _ => True)) x23) from h24)
        ·exact Tot.inr (show ((SzL 8 (fun _ => True)) ([] : (List Int))) from SzL.nil)
 ·intro s
  cases s
abbrev Za6s : Zls → Prop := fun _ => True
abbrev Zbbp : Zls → M6 := fun _ => (0, 0, 0, 0, 0, 0)
theorem Zajc (a0 : Zc) (a1 : Zf) (oa0 : Zap a0) : Tot (Zos a0 a1) (fun r => True) := by
 unfold Zos
 refine Tot.fin (Inv := Za6s) (μ := Zbbp) (m := (1000000, 0, 0, 0, 0, 0)) ?_ ?_
 ·unfold Z2l
  refine Tot.ieq (fun h1 => ?_) (fun h1 => ?_)
  ·refine Tot.bind (Za6r a0 a1.Id oa0) (fun x2 h3 => ?_)
   exact Tot.inr trivial
  ·refine Tot.bind (Zbgl a0 a1.Zone a1.Owner oa0) (fun x4 h5 => ?_)
   replace h5 : ((SzL 8 (fun _ => True)) x4) := h5
   refine Tot.bind (Z9o x4 a1.Id h5) (fun x6 h7 => ?_)
   exact Tot.inr trivial
 ·intro s
  cases s
abbrev Z4f : Zhy → Prop
 | .L0 v0 E0 v5 => ((SzL 176 Zb8) v0) ∧ (Zap E0) ∧ (0 ≤ v5)
abbrev Zpc : Zhy → M6
 | .L0 v0 E0 v5 => (1, ((E0.Objects.length : Int) - v5).toNat, 1000000, 0, 0, 0)
theorem Zarx (v0 : (List Zu)) (E0 : Zc) (v5 : Int) (h : Z4f (.L0 v0 E0 v5)) : Tot (Zo9 v0 E0 v5) (Nx Z4f Zpc (Zpc (.L0 v0 E0 v5)) (fun r => True)) := by
 obtain ⟨ov0, ob30000000, cv5⟩ := h
 have lb_v0 := ov0.1
 unfold Zo9
 have q1 := ob30000000.2.1.1
 refine Tot.dif (fun h2 => ?_) (fun h2 => ?_)
 ·refine Tot.bind (Tot.idx (by omega) (by omega)) (fun x3 h4 => ?_)
  have q5 := ov0.1
  have q6 := ob30000000.1.1
  refine Tot.bind (Zbl5 x3 (v0.length : Int) (E0.Players.length : Int)) (fun x7 h8 => ?_)
  refine Tot.not (fun h9 => ?_) (fun h9 => ?_)
  ·exact Tot.inr trivial
  ·refine Tot.dif (fun h10 => ?_) (fun h10 => ?_)
   ·exact Tot.inr trivial
   ·refine Tot.dif (fun h11 => ?_) (fun h11 => ?_)
    ·exact Tot.inr trivial
    ·refine Tot.dif (fun h12 => ?_) (fun h12 => ?_)
     ·have q13 := Za3 (v5 - 1)
      have q14 := Za4 (v5 - 1)
      refine Tot.bind (Tot.idx (by omega) (by omega)) (fun x15 h16 => ?_)
      refine Tot.dif (fun h17 => ?_) (fun h17 => ?_)
      ·exact Tot.inr trivial
      ·refine Tot.bind (Zajc E0 x3 ob30000000) (fun x18 h19 => ?_)
       refine Tot.not (fun h20 => ?_) (fun h20 => ?_)
       ·exact Tot.inr trivial
       ·have q21 := Za3 (v5 + 1)
        have q22 := Za4 (v5 + 1)
        exact Tot.inl ⟨ov0, ob30000000, (by omega)⟩ (by unfold Zpc lt6; dsimp only; omega)
     ·refine Tot.bind (Zajc E0 x3 ob30000000) (fun x23 h24 => ?_)
      refine Tot.not (fun h25 => ?_) (fun h25 => ?_)
      ·exact Tot.inr trivial
      ·have q26 := Za3 (v5 + 1)
       have q27 := Za4 (v5 + 1)
       exact Tot.inl ⟨ov0, ob30000000, (by omega)⟩ (by unfold Zpc lt6; dsimp only; omega)
 ·exact Tot.inr trivial
theorem Zvt (a0 : (List Zu)) (a1 : Zc) (oa0 : (SzL 176 Zb8) a0) (oa1 : Zap a1) : Tot (Zic a0 a1) (fun r => True) := by
 unfold Zic
 refine Tot.fin (Inv := Z4f) (μ := Zpc) (m := (1000000, 0, 0, 0, 0, 0)) ?_ ?_
 ·have lb_a0 := oa0.1
  unfold Zzm
  have q1 := oa1.2.1.1
  refine Tot.dif (fun h2 => ?_) (fun h2 => ?_)
  ·exact Tot.inr trivial
  ·exact Tot.inl ⟨oa0, oa1, (by omega)⟩ (by unfold Zpc lt6; dsimp only; omega)
 ·intro s hs
  cases s with
  | L0 v0 E0 v5 => exact Zarx v0 E0 v5 hs
abbrev Z0x : Zg4 → Prop
 | .L0 v0 v1 v5 => ((SzL 176 Zat) v0) ∧ ((SzL 176 Zat) v1) ∧ (0 ≤ v5) ∧ (v0.length = v1.length)
abbrev Zqn : Zg4 → M6
 | .L0 v0 v1 v5 => (1, ((v0.length : Int) - v5).toNat, 1000000, 0, 0, 0)
theorem Zan6 (v0 : (List Zg)) (v1 : (List Zg)) (v5 : Int) (h : Z0x (.L0 v0 v1 v5)) : Tot (Zvm v0 v1 v5) (Nx Z0x Zqn (Zqn (.L0 v0 v1 v5)) (fun r => True)) := by
 obtain ⟨ov0, ov1, cv5, i0⟩ := h
 have lb_v0 := ov0.1
 have lb_v1 := ov1.1
 unfold Zvm
 have q1 := ov0.1
 refine Tot.dif (fun h2 => ?_) (fun h2 => ?_)
 ·refine Tot.bind (Tot.idx (by omega) (by omega)) (fun x3 h4 => ?_)
  have oh4 : Zat x3 := ov0.2 x3 h4.1
  refine Tot.bind (Tot.idx (by omega) (by omega)) (fun x5 h6 => ?_)
  have oh6 : Zat x5 := ov1.2 x5 h6.1
  refine Tot.not (fun h7 => ?_) (fun h7 => ?_)
  ·exact Tot.inr trivial
  ·have q8 := Za3 (v5 + 1)
   have q9 := Za4 (v5 + 1)
   exact Tot.inl ⟨ov0, ov1, (by omega), (by omega)⟩ (by unfold Zqn lt6; dsimp only; omega)
 ·exact Tot.inr trivial
theorem Zaea (a0 : (List Zg)) (a1 : (List Zg)) (oa0 : (SzL 176 Zat) a0) (oa1 : (SzL 176 Zat) a1) : Tot (Zwl a0 a1) (fun r => True) := by
 unfold Zwl
 refine Tot.fin (Inv := Z0x) (μ := Zqn) (m := (1000000, 0, 0, 0, 0, 0)) ?_ ?_
 ·have lb_a0 := oa0.1
  have lb_a1 := oa1.1
  unfold Z49
  have q1 := oa0.1
  have q2 := oa1.1
  refine Tot.ine (fun h3 => ?_) (fun h3 => ?_)
  ·exact Tot.inr trivial
  ·exact Tot.inl ⟨oa0, oa1, (by omega), (by omega)⟩ (by unfold Zqn lt6; dsimp only; omega)
 ·intro s hs
  cases s with
  | L0 v0 v1 v5 => exact Zan6 v0 v1 v5 hs
abbrev Zbgm : Zot → Prop := fun _ => True
abbrev Zbjz : Zot → M6 := fun _ => (0, 0, 0, 0, 0, 0)
theorem Zbgn (a0 : Zj) (a1 : Zj) (oa0 : Za7 a0) (oa1 : Za7 a1) : Tot (Zakm a0 a1) (fun r => True) := by
 unfold Zakm
 refine Tot.fin (Inv := Zbgm) (μ := Zbjz) (m := (1000000, 0, 0, 0, 0, 0)) ?_ ?_
 ·unfold Zakl
  refine Tot.ieq (fun h1 => ?_) (fun h1 => ?_)
  ·refine Tot.bif (fun h2 => ?_) (fun h2 => ?_)
   ·refine Tot.bif (fun h3 => ?_) (fun h3 => ?_)
    ·refine Tot.ieq (fun h4 => ?_) (fun h4 => ?_)
     ·refine Tot.ieq (fun h5 => ?_) (fun h5 => ?_)
      ·refine Tot.bif (fun h6 => ?_) (fun h6 => ?_)
       ·refine Tot.bif (fun h7 => ?_) (fun h7 => ?_)
        ·refine Tot.bif (fun h8 => ?_) (fun h8 => ?_)
         ·refine Tot.bind (Zaea a0.Mods a1.Mods oa0.2.2.2.2 oa1.2.2.2.2) (fun x9 h10 => ?_)
          exact Tot.inr trivial
         ·exact Tot.inr trivial
        ·exact Tot.inr trivial
       ·exact Tot.inr trivial
      ·exact Tot.inr trivial
     ·exact Tot.inr trivial
    ·exact Tot.inr trivial
   ·exact Tot.inr trivial
  ·exact Tot.inr trivial
 ·intro s
  cases s
abbrev Z0y : Zg5 → Prop
 | .L0 v0 v1 v5 => ((SzL 560 Za7) v0) ∧ ((SzL 560 Za7) v1) ∧ (0 ≤ v5) ∧ (v0.length = v1.length)
abbrev Zqo : Zg5 → M6
 | .L0 v0 v1 v5 => (1, ((v0.length : Int) - v5).toNat, 1000000, 0, 0, 0)
theorem Zan7 (v0 : (List Zj)) (v1 : (List Zj)) (v5 : Int) (h : Z0y (.L0 v0 v1 v5)) : Tot (Zvn v0 v1 v5) (Nx Z0y Zqo (Zqo (.L0 v0 v1 v5)) (fun r => True)) := by
 obtain ⟨ov0, ov1, cv5, i0⟩ := h
 have lb_v0 := ov0.1
 have lb_v1 := ov1.1
 unfold Zvn
 have q1 := ov0.1
 refine Tot.dif (fun h2 => ?_) (fun h2 => ?_)
 ·refine Tot.bind (Tot.idx (by omega) (by omega)) (fun x3 h4 => ?_)
  have oh4 : Za7 x3 := ov0.2 x3 h4.1
  refine Tot.bind (Tot.idx (by omega) (by omega)) (fun x5 h6 => ?_)
  have oh6 : Za7 x5 := ov1.2 x5 h6.1
  refine Tot.bind (Zbgn x3 x5 oh4 oh6) (fun x7 h8 => ?_)
  refine Tot.not (fun h9 => ?_) (fun h9 => ?_)
  ·exact Tot.inr trivial
  ·have q10 := Za3 (v5 + 1)
   have q11 := Za4 (v5 + 1)
   exact Tot.inl ⟨ov0, ov1, (by omega), (by omega)⟩ (by unfold Zqo lt6; dsimp only; omega)
 ·exact Tot.inr trivial
theorem Zayq (a0 : (List Zj)) (a1 : (List Zj)) (oa0 : (SzL 560 Za7) a0) (oa1 : (SzL 560 Za7) a1) : Tot (Z2m a0 a1) (fun r => True) := by
 unfold Z2m
 refine Tot.fin (Inv := Z0y) (μ := Zqo) (m := (1000000, 0, 0, 0, 0, 0)) ?_ ?_
 ·have lb_a0 := oa0.1
  have lb_a1 := oa1.1
  unfold Z5a
  have q1 := oa0.1
  have q2 := oa1.1
  refine Tot.ine (fun h3 => ?_) (fun h3 => ?_)
  ·exact Tot.inr trivial
  ·exact Tot.inl ⟨oa0, oa1, (by omega), (by omega)⟩ (by unfold Zqo lt6; dsimp only; omega)
 ·intro s hs
  cases s with
  | L0 v0 v1 v5 => exact Zan7 v0 v1 v5 hs
abbrev Zaeb : Zlt → Prop
 | .L0 E0 E1 v5 => (Zdb E0) ∧ (Zdb E1) ∧ (0 ≤ v5) ∧ (E0.Specs.length = E1.Specs.length)
abbrev Zzd : Zlt → M6
 | .L0 E0 E1 v5 => (1, ((E0.Specs.length : Int) - v5).toNat, 1000000, 0, 0, 0)
theorem Za3i (E0 : Zq) (E1 : Zq) (v5 : Int) (h : Zaeb (.L0 E0 E1 v5)) : Tot (Z6q E0 E1 v5) (Nx Zaeb Zzd (Zzd (.L0 E0 E1 v5)) (fun r => True)) := by
 obtain ⟨ob30000000, ob30000001, cv5, i0⟩ := h
 unfold Z6q
 have q1 := ob30000000.2.2.2.1.1
 refine Tot.dif (fun h2 => ?_) (fun h2 => ?_)
 ·refine Tot.bind (Tot.idx (by omega) (by omega)) (fun x3 h4 => ?_)
  have oh4 : Zo6 x3 := ob30000000.2.2.2.1.2 x3 h4.1
  refine Tot.bind (Tot.idx (by omega) (by omega)) (fun x5 h6 => ?_)
  have oh6 : Zo6 x5 := ob30000001.2.2.2.1.2 x5 h6.1
  refine Tot.not (fun h7 => ?_) (fun h7 => ?_)
  ·exact Tot.inr trivial
  ·have q8 := Za3 (v5 + 1)
   have q9 := Za4 (v5 + 1)
   exact Tot.inl ⟨ob30000000, ob30000001, (by omega), (by omega)⟩ (by unfold Zzd lt6; dsimp only; omega)
 ·refine Tot.ieq (fun h10 => ?_) (fun h10 => ?_)
  ·refine Tot.bif (fun h11 => ?_) (fun h11 => ?_)
   ·refine Tot.bind (Zaea E0.Mods E1.Mods ob30000000.2.1 ob30000001.2.1) (fun x12 h13 => ?_)
    refine Tot.bif (fun h14 => ?_) (fun h14 => ?_)
    ·refine Tot.bif (fun h15 => ?_) (fun h15 => ?_)
     ·refine Tot.bif (fun h16 => ?_) (fun h16 => ?_)
      ·refine Tot.bif (fun h17 => ?_) (fun h17 => ?_)
       ·refine Tot.bif (fun h18 => ?_) (fun h18 => ?_)
        ·refine Tot.bind (Zayq E0.Effects E1.Effects ob30000000.2.2.2.2.1 ob30000001.2.2.2.2.1) (fun x19 h20 => ?_)
         refine Tot.bif (fun h21 => ?_) (fun h21 => ?_)
         ·exact Tot.inr trivial
         ·exact Tot.inr trivial
        ·exact Tot.inr trivial
       ·exact Tot.inr trivial
      ·exact Tot.inr trivial
     ·exact Tot.inr trivial
    ·exact Tot.inr trivial
   ·exact Tot.inr trivial
  ·exact Tot.inr trivial
theorem Zbgo (a0 : Zq) (a1 : Zq) (oa0 : Zdb a0) (oa1 : Zdb a1) : Tot (Zako a0 a1) (fun r => True) := by
 unfold Zako
 refine Tot.fin (Inv := Zaeb) (μ := Zzd) (m := (1000000, 0, 0, 0, 0, 0)) ?_ ?_
 ·unfold Zakn
  have q1 := oa0.2.2.2.1.1
  have q2 := oa1.2.2.2.1.1
  refine Tot.ine (fun h3 => ?_) (fun h3 => ?_)
  ·exact Tot.inr trivial
  ·exact Tot.inl ⟨oa0, oa1, (by omega), (by omega)⟩ (by unfold Zzd lt6; dsimp only; omega)
 ·intro s hs
  cases s with
  | L0 E0 E1 v5 => exact Za3i E0 E1 v5 hs
abbrev Zbgp : Zou → Prop := fun _ => True
abbrev Zbj0 : Zou → M6 := fun _ => (0, 0, 0, 0, 0, 0)
theorem Zbgq (a0 : Zc) (a1 : Zag) (oa0 : Zap a0) (oa1 : Zld a1) : Tot (Zakq a0 a1) (fun r => True) := by
 unfold Zakq
 refine Tot.fin (Inv := Zbgp) (μ := Zbj0) (m := (1000000, 0, 0, 0, 0, 0)) ?_ ?_
 ·unfold Zakp
  have q1 := Za3 (a0.NextId - 1)
  have q2 := Za4 (a0.NextId - 1)
  refine Tot.bind (Zix a1.Id 1 (IntKind.wrap .i64 (a0.NextId - 1))) (fun x3 h4 => ?_)
  refine Tot.not (fun h5 => ?_) (fun h5 => ?_)
  ·exact Tot.inr trivial
  ·refine Tot.bind (Zix a1.X 0 1000000) (fun x6 h7 => ?_)
   refine Tot.not (fun h8 => ?_) (fun h8 => ?_)
   ·exact Tot.inr trivial
   ·have q9 := oa1.2.1
    refine Tot.dif (fun h10 => ?_) (fun h10 => ?_)
    ·exact Tot.inr trivial
    ·refine Tot.bind (Zmy a0 a1.Control oa0) (fun x11 h12 => ?_)
     refine Tot.not (fun h13 => ?_) (fun h13 => ?_)
     ·exact Tot.inr trivial
     ·refine Tot.bind (Zajb a0 a1.Id oa0) (fun x14 h15 => ?_)
      refine Tot.ieq (fun h16 => ?_) (fun h16 => ?_)
      ·refine Tot.bind (Zbgo a1.Ability (⟨0, (⟨0, 0, 0, 0, 0, 0, 0, ([] : List UInt8), 0, 0, (⟨0, 0⟩ : Ze), (⟨0, 0⟩ : Ze), (⟨0, 0⟩ : Ze)⟩ : Zi), ([] : (List Zg)), (⟨(⟨0, 0, (⟨0, 0, 0, 0, 0⟩ : (A5 Int))⟩ : Zah), false, false, 0⟩ : Zih), false, (⟨0, 0, (⟨0, 0, 0, 0, 0, 0, 0, ([] : List UInt8), 0, 0, (⟨0, 0⟩ : Ze), (⟨0, 0⟩ : Ze), (⟨0, 0⟩ : Ze)⟩ : Zi)⟩ : Zdj), false, ([] : (List Zai)), ([] : (List Zj)), (⟨0, 0, (⟨0, 0, 0, 0, 0, 0, 0, ([] : List UInt8), 0, 0, (⟨0, 0⟩ : Ze), (⟨0, 0⟩ : Ze), (⟨0, 0⟩ : Ze)⟩ : Zi), 0, 0, 0, 0⟩ : Za1)⟩ : Zq) oa1.1 ⟨(SzS.nil), SzL.nil, (SzS.nil), SzL.nil, SzL.nil, (SzS.nil)⟩) (fun x17 h18 => ?_)
       refine Tot.ieq (fun h19 => ?_) (fun h19 => ?_)
       ·refine Tot.bif (fun h20 => ?_) (fun h20 => ?_)
        ·refine Tot.ieq (fun h21 => ?_) (fun h21 => ?_)
         ·refine Tot.bif (fun h22 => ?_) (fun h22 => ?_)
          ·exact Tot.inr trivial
          ·refine Tot.bind (Zaan a1.Ability oa1.1) (fun x23 h24 => ?_)
           exact Tot.inr trivial
         ·exact Tot.inr trivial
        ·exact Tot.inr trivial
       ·exact Tot.inr trivial
      ·refine Tot.ieq (fun h25 => ?_) (fun h25 => ?_)
       ·refine Tot.not (fun h26 => ?_) (fun h26 => ?_)
        ·refine Tot.bind (Zaan a1.Ability oa1.1) (fun x27 h28 => ?_)
         exact Tot.inr trivial
        ·exact Tot.inr trivial
       ·exact Tot.inr trivial
 ·intro s
  cases s
abbrev Zal7 : Zpi → Prop
 | .L0 v0 v3 => ((SzL 8 (fun _ => True)) v0) ∧ (0 ≤ v3) ∧ (1 ≤ v3)
abbrev Z7w : Zpi → M6
 | .L0 v0 v3 => (1, ((v0.length : Int) - v3).toNat, 1000000, 0, 0, 0)
theorem Zbbq (v0 : (List Int)) (v3 : Int) (h : Zal7 (.L0 v0 v3)) : Tot (Zae4 v0 v3) (Nx Zal7 Z7w (Z7w (.L0 v0 v3)) (fun r => True)) := by
 obtain ⟨ov0, cv3, i0⟩ := h
 have lb_v0 := ov0.1
 unfold Zae4
 have q1 := ov0.1
 refine Tot.dif (fun h2 => ?_) (fun h2 => ?_)
 ·have q3 := Za3 (v3 - 1)
  have q4 := Za4 (v3 - 1)
  refine Tot.bind (Tot.idx (by omega) (by omega)) (fun x5 h6 => ?_)
  refine Tot.bind (Tot.idx (by omega) (by omega)) (fun x7 h8 => ?_)
  refine Tot.dif (fun h9 => ?_) (fun h9 => ?_)
  ·exact Tot.inr trivial
  ·have q10 := Za3 (v3 + 1)
   have q11 := Za4 (v3 + 1)
   exact Tot.inl ⟨ov0, (by omega), (by omega)⟩ (by unfold Z7w lt6; dsimp only; omega)
 ·exact Tot.inr trivial
theorem Zbl6 (a0 : (List Int)) (oa0 : (SzL 8 (fun _ => True)) a0) : Tot (Zaz8 a0) (fun r => True) := by
 unfold Zaz8
 refine Tot.fin (Inv := Zal7) (μ := Z7w) (m := (1000000, 0, 0, 0, 0, 0)) ?_ ?_
 ·have lb_a0 := oa0.1
  unfold Zawk
  exact Tot.inl ⟨oa0, (by omega), (by omega)⟩ (by unfold Z7w lt6; dsimp only; omega)
 ·intro s hs
  cases s with
  | L0 v0 v3 => exact Zbbq v0 v3 hs
abbrev Zkq : Zfp → Prop
 | .L0 E0 v3 => (Zap E0) ∧ (0 ≤ v3)
 | .L1 E0 v3 v4 => (Zap E0) ∧ (0 ≤ v4) ∧ (0 ≤ v3) ∧ (v3 < (E0.Stack.length : Int))
 | .L2 E0 v5 => (Zap E0) ∧ (0 ≤ v5)
 | .L3 E0 v7 => (Zap E0) ∧ (0 ≤ v7)
abbrev Zfb : Zfp → M6
 | .L0 E0 v3 => (5, ((E0.Stack.length : Int) - v3).toNat, 1000000, 0, 0, 0)
 | .L1 E0 v3 v4 => (5, ((E0.Stack.length : Int) - v3).toNat, 1, (v3 - v4).toNat, 1000000, 0)
 | .L2 E0 v5 => (3, ((E0.Waiting.length : Int) - v5).toNat, 1000000, 0, 0, 0)
 | .L3 E0 v7 => (1, ((E0.Conts.length : Int) - v7).toNat, 1000000, 0, 0, 0)
theorem Zayr (E0 : Zc) (v3 : Int) (h : Zkq (.L0 E0 v3)) : Tot (Z2n E0 v3) (Nx Zkq Zfb (Zfb (.L0 E0 v3)) (fun r => True)) := by
 obtain ⟨ob30000000, cv3⟩ := h
 unfold Z2n
 have q1 := ob30000000.2.2.2.2.1.1
 refine Tot.dif (fun h2 => ?_) (fun h2 => ?_)
 ·refine Tot.bind (Tot.idx (by omega) (by omega)) (fun x3 h4 => ?_)
  have oh4 : Zld x3 := ob30000000.2.2.2.2.1.2 x3 h4.1
  refine Tot.bind (Zbgq E0 x3 ob30000000 oh4) (fun x5 h6 => ?_)
  refine Tot.not (fun h7 => ?_) (fun h7 => ?_)
  ·exact Tot.inr trivial
  ·exact Tot.inl ⟨ob30000000, (by omega), (by omega), (by omega)⟩ (by unfold Zfb lt6; dsimp only; omega)
 ·exact Tot.inl ⟨ob30000000, (by omega)⟩ (by unfold Zfb lt6; dsimp only; omega)
theorem Zays (E0 : Zc) (v3 : Int) (v4 : Int) (h : Zkq (.L1 E0 v3 v4)) : Tot (Z2o E0 v3 v4) (Nx Zkq Zfb (Zfb (.L1 E0 v3 v4)) (fun r => True)) := by
 obtain ⟨ob30000000, cv4, cv3, bd3⟩ := h
 unfold Z2o
 have lx_0 := ob30000000.2.2.2.2.1.1
 refine Tot.dif (fun h1 => ?_) (fun h1 => ?_)
 ·refine Tot.bind (Tot.idx (by omega) (by omega)) (fun x2 h3 => ?_)
  have oh3 : Zld x2 := ob30000000.2.2.2.2.1.2 x2 h3.1
  refine Tot.bind (Tot.idx (by omega) (by omega)) (fun x4 h5 => ?_)
  have oh5 : Zld x4 := ob30000000.2.2.2.2.1.2 x4 h5.1
  refine Tot.ieq (fun h6 => ?_) (fun h6 => ?_)
  ·exact Tot.inr trivial
  ·have q7 := Za3 (v4 + 1)
   have q8 := Za4 (v4 + 1)
   exact Tot.inl ⟨ob30000000, (by omega), (by omega), (by omega)⟩ (by unfold Zfb lt6; dsimp only; omega)
 ·have q9 := Za3 (v3 + 1)
  have q10 := Za4 (v3 + 1)
  exact Tot.inl ⟨ob30000000, (by omega)⟩ (by unfold Zfb lt6; dsimp only; omega)
theorem Zayt (E0 : Zc) (v5 : Int) (h : Zkq (.L2 E0 v5)) : Tot (Z2p E0 v5) (Nx Zkq Zfb (Zfb (.L2 E0 v5)) (fun r => True)) := by
 obtain ⟨ob30000000, cv5⟩ := h
 unfold Z2p
 have q1 := ob30000000.2.2.2.2.2.1.1
 refine Tot.dif (fun h2 => ?_) (fun h2 => ?_)
 ·refine Tot.bind (Tot.idx (by omega) (by omega)) (fun x3 h4 => ?_)
  have oh4 : Zpb x3 := ob30000000.2.2.2.2.2.1.2 x3 h4.1
  refine Tot.bind (Zmy E0 x3.Control ob30000000) (fun x5 h6 => ?_)
  refine Tot.not (fun h7 => ?_) (fun h7 => ?_)
  ·exact Tot.inr trivial
  ·refine Tot.ine (fun h8 => ?_) (fun h8 => ?_)
   ·exact Tot.inr trivial
   ·refine Tot.bind (Zaan x3.Ability oh4) (fun x9 h10 => ?_)
    refine Tot.not (fun h11 => ?_) (fun h11 => ?_)
    ·exact Tot.inr trivial
    ·have q12 := Za3 (v5 + 1)
     have q13 := Za4 (v5 + 1)
     exact Tot.inl ⟨ob30000000, (by omega)⟩ (by unfold Zfb lt6; dsimp only; omega)
 ·exact Tot.inl ⟨ob30000000, (by omega)⟩ (by unfold Zfb lt6; dsimp only; omega)
theorem Zayu (E0 : Zc) (v7 : Int) (h : Zkq (.L3 E0 v7)) : Tot (Z2q E0 v7) (Nx Zkq Zfb (Zfb (.L3 E0 v7)) (fun r => True)) := by
 obtain ⟨ob30000000, cv7⟩ := h
 unfold Z2q
 have q1 := ob30000000.2.2.2.2.2.2.1.1
 refine Tot.dif (fun h2 => ?_) (fun h2 => ?_)
 ·refine Tot.bind (Tot.idx (by omega) (by omega)) (fun x3 h4 => ?_)
  have oh4 : Zu3 x3 := ob30000000.2.2.2.2.2.2.1.2 x3 h4.1
  refine Tot.bind (Zmy E0 x3.Control ob30000000) (fun x5 h6 => ?_)
  refine Tot.not (fun h7 => ?_) (fun h7 => ?_)
  ·exact Tot.inr trivial
  ·refine Tot.dif (fun h8 => ?_) (fun h8 => ?_)
   ·exact Tot.inr trivial
   ·refine Tot.bind (Zix x3.Until 1 2) (fun x9 h10 => ?_)
    refine Tot.not (fun h11 => ?_) (fun h11 => ?_)
    ·exact Tot.inr trivial
    ·refine Tot.bind (Zbl6 x3.Objects oh4.1) (fun x12 h13 => ?_)
     refine Tot.not (fun h14 => ?_) (fun h14 => ?_)
     ·exact Tot.inr trivial
     ·refine Tot.bind (Z0w x3.Mods oh4.2) (fun x15 h16 => ?_)
      replace h16 : (x15.length ≤ 4611686018427387904) := h16
      have eh16_0 := h16
      try simp only [List.length_nil, List.length_cons, Nat.zero_add] at eh16_0
      refine Tot.bif (fun h17 => ?_) (fun h17 => ?_)
      ·exact Tot.inr trivial
      ·have q18 := Za3 (v7 + 1)
       have q19 := Za4 (v7 + 1)
       exact Tot.inl ⟨ob30000000, (by omega)⟩ (by unfold Zfb lt6; dsimp only; omega)
 ·exact Tot.inr trivial
theorem Zz9 (a0 : Zc) (oa0 : Zap a0) : Tot (Zs0 a0) (fun r => True) := by
 unfold Zs0
 refine Tot.fin (Inv := Zkq) (μ := Zfb) (m := (1000000, 0, 0, 0, 0, 0)) ?_ ?_
 ·unfold Zagp
  have q1 := oa0.2.2.2.2.1.1
  refine Tot.dif (fun h2 => ?_) (fun h2 => ?_)
  ·exact Tot.inr trivial
  ·have q3 := oa0.2.2.2.2.2.1.1
   refine Tot.dif (fun h4 => ?_) (fun h4 => ?_)
   ·exact Tot.inr trivial
   ·have q5 := oa0.2.2.2.2.2.2.1.1
    refine Tot.dif (fun h6 => ?_) (fun h6 => ?_)
    ·exact Tot.inr trivial
    ·exact Tot.inl ⟨oa0, (by omega)⟩ (by unfold Zfb lt6; dsimp only; omega)
 ·intro s hs
  cases s with
  | L0 E0 v3 => exact Zayr E0 v3 hs
  | L1 E0 v3 v4 => exact Zays E0 v3 v4 hs
  | L2 E0 v5 => exact Zayt E0 v5 hs
  | L3 E0 v7 => exact Zayu E0 v7 hs
abbrev Zal8 : Zmr → Prop
 | .L0 v0 E0 v5 => ((SzL 176 Zb8) v0) ∧ (Zap E0) ∧ (0 ≤ v5)
abbrev Z7x : Zmr → M6
 | .L0 v0 E0 v5 => (1, ((E0.Extra.length : Int) - v5).toNat, 1000000, 0, 0, 0)
theorem Zbbr (v0 : (List Zu)) (E0 : Zc) (v5 : Int) (h : Zal8 (.L0 v0 E0 v5)) : Tot (Z1p v0 E0 v5) (Nx Zal8 Z7x (Z7x (.L0 v0 E0 v5)) (fun r => True)) := by
 obtain ⟨ov0, ob30000000, cv5⟩ := h
 have lb_v0 := ov0.1
 unfold Z1p
 have q1 := ob30000000.2.2.2.2.2.2.2.1
 refine Tot.dif (fun h2 => ?_) (fun h2 => ?_)
 ·refine Tot.bind (Tot.idx (by omega) (by omega)) (fun x3 h4 => ?_)
  refine Tot.bind (Zmy E0 x3 ob30000000) (fun x5 h6 => ?_)
  refine Tot.not (fun h7 => ?_) (fun h7 => ?_)
  ·exact Tot.inr trivial
  ·have q8 := Za3 (v5 + 1)
   have q9 := Za4 (v5 + 1)
   exact Tot.inl ⟨ov0, ob30000000, (by omega)⟩ (by unfold Z7x lt6; dsimp only; omega)
 ·refine Tot.ieq (fun h10 => ?_) (fun h10 => ?_)
  ·refine Tot.bind (Zmy E0 E0.Winner ob30000000) (fun x11 h12 => ?_)
   refine Tot.not (fun h13 => ?_) (fun h13 => ?_)
   ·exact Tot.inr trivial
   ·refine Tot.ine (fun h14 => ?_) (fun h14 => ?_)
    ·refine Tot.ine (fun h15 => ?_) (fun h15 => ?_)
     ·exact Tot.inr trivial
     ·refine Tot.bind (Zvt v0 E0 ov0 ob30000000) (fun x16 h17 => ?_)
      refine Tot.bif (fun h18 => ?_) (fun h18 => ?_)
      ·refine Tot.bind (Zz9 E0 ob30000000) (fun x19 h20 => ?_)
       exact Tot.inr trivial
      ·exact Tot.inr trivial
    ·refine Tot.bind (Zvt v0 E0 ov0 ob30000000) (fun x21 h22 => ?_)
     refine Tot.bif (fun h23 => ?_) (fun h23 => ?_)
     ·refine Tot.bind (Zz9 E0 ob30000000) (fun x24 h25 => ?_)
      exact Tot.inr trivial
     ·exact Tot.inr trivial
  ·refine Tot.ine (fun h26 => ?_) (fun h26 => ?_)
   ·refine Tot.ine (fun h27 => ?_) (fun h27 => ?_)
    ·exact Tot.inr trivial
    ·refine Tot.bind (Zvt v0 E0 ov0 ob30000000) (fun x28 h29 => ?_)
     refine Tot.bif (fun h30 => ?_) (fun h30 => ?_)
     ·refine Tot.bind (Zz9 E0 ob30000000) (fun x31 h32 => ?_)
      exact Tot.inr trivial
     ·exact Tot.inr trivial
   ·refine Tot.bind (Zvt v0 E0 ov0 ob30000000) (fun x33 h34 => ?_)
    refine Tot.bif (fun h35 => ?_) (fun h35 => ?_)
    ·refine Tot.bind (Zz9 E0 ob30000000) (fun x36 h37 => ?_)
     exact Tot.inr trivial
    ·exact Tot.inr trivial
theorem Zbl7 (a0 : (List Zu)) (a1 : Zc) (oa0 : (SzL 176 Zb8) a0) (oa1 : Zap a1) : Tot (Z7e a0 a1) (fun r => True) := by
 unfold Z7e
 refine Tot.fin (Inv := Zal8) (μ := Z7x) (m := (1000000, 0, 0, 0, 0, 0)) ?_ ?_
 ·have lb_a0 := oa0.1
  unfold Zakr
  refine Tot.bind (Zix a1.NextId 1 1000000) (fun x1 h2 => ?_)
  refine Tot.not (fun h3 => ?_) (fun h3 => ?_)
  ·exact Tot.inr trivial
  ·refine Tot.bind (Zix a1.NextStamp 1 1000000) (fun x4 h5 => ?_)
   refine Tot.not (fun h6 => ?_) (fun h6 => ?_)
   ·exact Tot.inr trivial
   ·refine Tot.bind (Zix a1.Turn 0 500) (fun x7 h8 => ?_)
    refine Tot.not (fun h9 => ?_) (fun h9 => ?_)
    ·exact Tot.inr trivial
    ·refine Tot.bind (Zix a1.Step 0 10) (fun x10 h11 => ?_)
     refine Tot.not (fun h12 => ?_) (fun h12 => ?_)
     ·exact Tot.inr trivial
     ·have q13 := oa1.2.1.1
      refine Tot.dif (fun h14 => ?_) (fun h14 => ?_)
      ·exact Tot.inr trivial
      ·refine Tot.bind (Za3h a1 oa1) (fun x15 h16 => ?_)
       refine Tot.not (fun h17 => ?_) (fun h17 => ?_)
       ·exact Tot.inr trivial
       ·refine Tot.bind (Zmy a1 a1.Active oa1) (fun x18 h19 => ?_)
        refine Tot.not (fun h20 => ?_) (fun h20 => ?_)
        ·exact Tot.inr trivial
        ·refine Tot.bind (Zmy a1 a1.Priority oa1) (fun x21 h22 => ?_)
         refine Tot.not (fun h23 => ?_) (fun h23 => ?_)
         ·exact Tot.inr trivial
         ·have q24 := oa1.1.1
          refine Tot.bind (Zix a1.Passes 0 (a1.Players.length : Int)) (fun x25 h26 => ?_)
          refine Tot.not (fun h27 => ?_) (fun h27 => ?_)
          ·exact Tot.inr trivial
          ·have q28 := oa1.2.2.2.2.2.2.2.1
           refine Tot.dif (fun h29 => ?_) (fun h29 => ?_)
           ·exact Tot.inr trivial
           ·refine Tot.bind (Zix a1.Over 0 2) (fun x30 h31 => ?_)
            refine Tot.not (fun h32 => ?_) (fun h32 => ?_)
            ·exact Tot.inr trivial
            ·exact Tot.inl ⟨oa0, oa1, (by omega)⟩ (by unfold Z7x lt6; dsimp only; omega)
 ·intro s hs
  cases s with
  | L0 v0 E0 v5 => exact Zbbr v0 E0 v5 hs
abbrev Z9p : Zkm → Prop
 | .L0 v0 E0 v5 => ((SzL 176 Zb8) v0) ∧ (Zap E0) ∧ (0 ≤ v5)
abbrev Zxl : Zkm → M6
 | .L0 v0 E0 v5 => (1, ((E0.Players.length : Int) - v5).toNat, 1000000, 0, 0, 0)
theorem Zayv (v0 : (List Zu)) (E0 : Zc) (v5 : Int) (h : Z9p (.L0 v0 E0 v5)) : Tot (Zro v0 E0 v5) (Nx Z9p Zxl (Zxl (.L0 v0 E0 v5)) (fun r => True)) := by
 obtain ⟨ov0, ob30000000, cv5⟩ := h
 have lb_v0 := ov0.1
 unfold Zro
 have q1 := ob30000000.1.1
 refine Tot.dif (fun h2 => ?_) (fun h2 => ?_)
 ·refine Tot.bind (Tot.idx (by omega) (by omega)) (fun x3 h4 => ?_)
  have oh4 : Zmf x3 := ob30000000.1.2 x3 h4.1
  have q5 := oh4.1.1
  have q6 := oh4.2.1.1
  have q7 := Za3 ((x3.Library.length : Int) + (x3.Hand.length : Int))
  have q8 := Za4 ((x3.Library.length : Int) + (x3.Hand.length : Int))
  have q9 := oh4.2.2.1
  have q10 := Za3 ((IntKind.wrap .i64 ((x3.Library.length : Int) + (x3.Hand.length : Int))) + (x3.Graveyard.length : Int))
  have q11 := Za4 ((IntKind.wrap .i64 ((x3.Library.length : Int) + (x3.Hand.length : Int))) + (x3.Graveyard.length : Int))
  refine Tot.dif (fun h12 => ?_) (fun h12 => ?_)
  ·exact Tot.inr trivial
  ·have q13 := Za3 (v5 + 1)
   have q14 := Za4 (v5 + 1)
   exact Tot.inl ⟨ov0, ob30000000, (by omega)⟩ (by unfold Zxl lt6; dsimp only; omega)
 ·refine Tot.bind (Zbbh v0 ov0) (fun x15 h16 => ?_)
  refine Tot.ieq (fun h17 => ?_) (fun h17 => ?_)
  ·refine Tot.bind (Zbl7 v0 E0 ov0 ob30000000) (fun x18 h19 => ?_)
   exact Tot.inr trivial
  ·exact Tot.inr trivial
theorem Zbbs (a0 : (List Zu)) (a1 : Zc) (oa0 : (SzL 176 Zb8) a0) (oa1 : Zap a1) : Tot (Z7f a0 a1) (fun r => True) := by
 unfold Z7f
 refine Tot.fin (Inv := Z9p) (μ := Zxl) (m := (1000000, 0, 0, 0, 0, 0)) ?_ ?_
 ·have lb_a0 := oa0.1
  unfold Z6r
  have q1 := oa0.1
  refine Tot.dif (fun h2 => ?_) (fun h2 => ?_)
  ·exact Tot.inr trivial
  ·have q3 := oa1.1.1
   refine Tot.dif (fun h4 => ?_) (fun h4 => ?_)
   ·exact Tot.inr trivial
   ·have q5 := oa1.2.1.1
    refine Tot.dif (fun h6 => ?_) (fun h6 => ?_)
    ·exact Tot.inr trivial
    ·have q7 := oa1.2.2.1.1
     refine Tot.dif (fun h8 => ?_) (fun h8 => ?_)
     ·exact Tot.inr trivial
     ·have q9 := oa1.2.2.2.1.1
      refine Tot.dif (fun h10 => ?_) (fun h10 => ?_)
      ·exact Tot.inr trivial
      ·have q11 := oa1.2.2.2.2.1.1
       refine Tot.dif (fun h12 => ?_) (fun h12 => ?_)
       ·exact Tot.inr trivial
       ·have q13 := oa1.2.2.2.2.2.1.1
        refine Tot.dif (fun h14 => ?_) (fun h14 => ?_)
        ·exact Tot.inr trivial
        ·have q15 := oa1.2.2.2.2.2.2.1.1
         refine Tot.dif (fun h16 => ?_) (fun h16 => ?_)
         ·exact Tot.inr trivial
         ·have q17 := oa1.2.2.2.2.2.2.2.1
          refine Tot.dif (fun h18 => ?_) (fun h18 => ?_)
          ·exact Tot.inr trivial
          ·exact Tot.inl ⟨oa0, oa1, (by omega)⟩ (by unfold Zxl lt6; dsimp only; omega)
 ·intro s hs
  cases s with
  | L0 v0 E0 v5 => exact Zayv v0 E0 v5 hs
abbrev Zbj1 : Zqc → Prop := fun _ => True
abbrev Zbl8 : Zqc → M6 := fun _ => (0, 0, 0, 0, 0, 0)
theorem Zbj2 (a0 : Zan) (oa0 : Zo7 a0) : Tot (Zaar a0) (fun r => True) := by
 unfold Zaar
 refine Tot.fin (Inv := Zbj1) (μ := Zbl8) (m := (1000000, 0, 0, 0, 0, 0)) ?_ ?_
 ·unfold Zae5
  refine Tot.bind (Zbbs a0.Cards a0.State oa0.1 oa0.2.1) (fun x1 h2 => ?_)
  refine Tot.bif (fun h3 => ?_) (fun h3 => ?_)
  ·have q4 := oa0.2.2.2.1.1
   exact Tot.inr trivial
  ·exact Tot.inr trivial
 ·intro s
  cases s
end Go.PW
