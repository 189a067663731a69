import Derived.Test.YtloamjgjcjandaaGreatQX
set_option linter.all false
set_option maxRecDepth 100000
namespace Go.PW
abbrev Zamh : Zpj → Prop
 | .L0 E0 => (Zyo E0)
abbrev Zar5 : Zpj → M6
 | .L0 E0 => (0, 0, 0, 0, 0, 0)
theorem Z9e (E0 : Zdk) (h : Zamh (.L0 E0)) : Tot (Z1l E0) (Nx Zamh Zar5 (Zar5 (.L0 E0)) (fun r => True)) := by
 have ob30000000 := h
 unfold Z1l
 refine Tot.bind (Zauk E0.When) (fun x1 h2 => ?_)
 refine Tot.not (fun h3 => ?_) (fun h3 => ?_)
 ·exact Tot.inr trivial
 ·refine Tot.ieq (fun h4 => ?_) (fun h4 => ?_)
  ·refine Tot.bind (Zmb E0.Filter ob30000000) (fun x5 h6 => ?_)
   replace h6 : (x5 = true → 0 ≤ E0.Filter.Zone ∧ E0.Filter.Zone ≤ 5 ∧ 0 ≤ E0.Filter.Who ∧ E0.Filter.Who ≤ 2 ∧ 0 ≤ E0.Filter.Self ∧ E0.Filter.Self ≤ 2 ∧ 0 ≤ E0.Filter.Tap ∧ E0.Filter.Tap ≤ 2 ∧ 0 ≤ E0.Filter.Power.Kind ∧ E0.Filter.Power.Kind ≤ 3 ∧ 0 ≤ E0.Filter.Tough.Kind ∧ E0.Filter.Tough.Kind ≤ 3 ∧ 0 ≤ E0.Filter.Value.Kind ∧ E0.Filter.Value.Kind ≤ 3) := h6
   have eh6_0 := h6
   refine Tot.bif (fun h7 => ?_) (fun h7 => ?_)
   ·have h7_0 := eh6_0 h7
    exact Tot.inr trivial
   ·exact Tot.inr trivial
  ·refine Tot.bind (Zmb E0.Filter ob30000000) (fun x8 h9 => ?_)
   replace h9 : (x8 = true → 0 ≤ E0.Filter.Zone ∧ E0.Filter.Zone ≤ 5 ∧ 0 ≤ E0.Filter.Who ∧ E0.Filter.Who ≤ 2 ∧ 0 ≤ E0.Filter.Self ∧ E0.Filter.Self ≤ 2 ∧ 0 ≤ E0.Filter.Tap ∧ E0.Filter.Tap ≤ 2 ∧ 0 ≤ E0.Filter.Power.Kind ∧ E0.Filter.Power.Kind ≤ 3 ∧ 0 ≤ E0.Filter.Tough.Kind ∧ E0.Filter.Tough.Kind ≤ 3 ∧ 0 ≤ E0.Filter.Value.Kind ∧ E0.Filter.Value.Kind ≤ 3) := h9
   have eh9_0 := h9
   refine Tot.bif (fun h10 => ?_) (fun h10 => ?_)
   ·have h10_0 := eh9_0 h10
    exact Tot.inr trivial
   ·exact Tot.inr trivial
theorem Zbmd (a0 : Zdk) (oa0 : Zyo a0) : Tot (Zaz8 a0) (fun r => True) := by
 unfold Zaz8
 refine Tot.fin (Inv := Zamh) (μ := Zar5) (m := (1000000, 0, 0, 0, 0, 0)) ?_ ?_
 ·unfold Zawm
  refine Tot.bind (Zar4 a0.When) (fun x1 h2 => ?_)
  replace h2 : (SzN x1) := h2
  refine Tot.bif (fun h3 => ?_) (fun h3 => ?_)
  ·exact Tot.inr trivial
  ·refine Tot.dif (fun h4 => ?_) (fun h4 => ?_)
   ·exact Tot.inr trivial
   ·refine Tot.dif (fun h5 => ?_) (fun h5 => ?_)
    ·exact Tot.inr trivial
    ·refine Tot.bind (Zajk a0.When) (fun x6 h7 => ?_)
     refine Tot.not (fun h8 => ?_) (fun h8 => ?_)
     ·refine Tot.ine (fun h9 => ?_) (fun h9 => ?_)
      ·exact Tot.inr trivial
      ·exact Tot.join (Z9e a0 oa0) (by unfold le6 lt6; dsimp only; omega)
     ·exact Tot.join (Z9e a0 oa0) (by unfold le6 lt6; dsimp only; omega)
 ·intro s hs
  cases s with
  | L0 E0 => exact Z9e E0 hs
abbrev Zbbm : Zna → Prop := fun _ => True
abbrev Zbge : Zna → M6 := fun _ => (0, 0, 0, 0, 0, 0)
theorem Z9f (a0 : Zi) (oa0 : Zcv a0) : Tot (Z1m a0) (fun r => True) := by
 unfold Z1m
 refine Tot.fin (Inv := Zbbm) (μ := Zbge) (m := (1000000, 0, 0, 0, 0, 0)) ?_ ?_
 ·unfold Zagp
  refine Tot.bind (Zmb a0 oa0) (fun x1 h2 => ?_)
  replace h2 : (x1 = true → 0 ≤ a0.Zone ∧ a0.Zone ≤ 5 ∧ 0 ≤ a0.Who ∧ a0.Who ≤ 2 ∧ 0 ≤ a0.Self ∧ a0.Self ≤ 2 ∧ 0 ≤ a0.Tap ∧ a0.Tap ≤ 2 ∧ 0 ≤ a0.Power.Kind ∧ a0.Power.Kind ≤ 3 ∧ 0 ≤ a0.Tough.Kind ∧ a0.Tough.Kind ≤ 3 ∧ 0 ≤ a0.Value.Kind ∧ a0.Value.Kind ≤ 3) := h2
  have eh2_0 := h2
  refine Tot.bif (fun h3 => ?_) (fun h3 => ?_)
  ·have h3_0 := eh2_0 h3
   exact Tot.inr trivial
  ·exact Tot.inr trivial
 ·intro s
  cases s
abbrev Zbbn : Znb → Prop := fun _ => True
abbrev Zbgf : Znb → M6 := fun _ => (0, 0, 0, 0, 0, 0)
theorem Zbbo (a0 : Za2) (oa0 : Zhb a0) : Tot (Zae1 a0) (fun r => True) := by
 unfold Zae1
 refine Tot.fin (Inv := Zbbn) (μ := Zbgf) (m := (1000000, 0, 0, 0, 0, 0)) ?_ ?_
 ·unfold Zagq
  refine Tot.ine (fun h1 => ?_) (fun h1 => ?_)
  ·exact Tot.inr trivial
  ·refine Tot.bind (Z9f a0.Filter oa0) (fun x2 h3 => ?_)
   refine Tot.not (fun h4 => ?_) (fun h4 => ?_)
   ·exact Tot.inr trivial
   ·refine Tot.ieq (fun h5 => ?_) (fun h5 => ?_)
    ·refine Tot.ieq (fun h6 => ?_) (fun h6 => ?_)
     ·refine Tot.ieq (fun h7 => ?_) (fun h7 => ?_)
      ·refine Tot.ieq (fun h8 => ?_) (fun h8 => ?_)
       ·exact Tot.inr trivial
       ·refine Tot.ieq (fun h9 => ?_) (fun h9 => ?_)
        ·exact Tot.inr trivial
        ·exact Tot.inr trivial
      ·exact Tot.inr trivial
     ·exact Tot.inr trivial
    ·refine Tot.ieq (fun h10 => ?_) (fun h10 => ?_)
     ·refine Tot.ieq (fun h11 => ?_) (fun h11 => ?_)
      ·refine Tot.ieq (fun h12 => ?_) (fun h12 => ?_)
       ·exact Tot.inr trivial
       ·exact Tot.inr trivial
      ·exact Tot.inr trivial
     ·refine Tot.ieq (fun h13 => ?_) (fun h13 => ?_)
      ·refine Tot.ieq (fun h14 => ?_) (fun h14 => ?_)
       ·refine Tot.dif (fun h15 => ?_) (fun h15 => ?_)
        ·refine Tot.dif (fun h16 => ?_) (fun h16 => ?_)
         ·refine Tot.dif (fun h17 => ?_) (fun h17 => ?_)
          ·exact Tot.inr trivial
          ·exact Tot.inr trivial
         ·exact Tot.inr trivial
        ·exact Tot.inr trivial
       ·exact Tot.inr trivial
      ·exact Tot.inr trivial
 ·intro s
  cases s
abbrev Zbbp : Znc → Prop := fun _ => True
abbrev Zbgg : Znc → M6 := fun _ => (0, 0, 0, 0, 0, 0)
theorem Zbbq (a0 : Za2) (oa0 : Zhb a0) : Tot (Zae2 a0) (fun r => True) := by
 unfold Zae2
 refine Tot.fin (Inv := Zbbp) (μ := Zbgg) (m := (1000000, 0, 0, 0, 0, 0)) ?_ ?_
 ·unfold Zagr
  refine Tot.ine (fun h1 => ?_) (fun h1 => ?_)
  ·exact Tot.inr trivial
  ·refine Tot.ine (fun h2 => ?_) (fun h2 => ?_)
   ·exact Tot.inr trivial
   ·refine Tot.ieq (fun h3 => ?_) (fun h3 => ?_)
    ·refine Tot.dif (fun h4 => ?_) (fun h4 => ?_)
     ·exact Tot.inr trivial
     ·exact Tot.inr trivial
    ·refine Tot.ieq (fun h5 => ?_) (fun h5 => ?_)
     ·refine Tot.dif (fun h6 => ?_) (fun h6 => ?_)
      ·exact Tot.inr trivial
      ·exact Tot.inr trivial
     ·exact Tot.inr trivial
 ·intro s
  cases s
abbrev Zt6 : Zkv → Prop
 | .L0 E0 v3 v4 => (Zhb E0)
 | .L1 E0 v3 => (Zhb E0)
 | .L2 E0 v3 v4 v109 => (Zhb E0)
abbrev Zxm : Zkv → M6
 | .L0 E0 v3 v4 => (0, 0, 0, 0, 0, 0)
 | .L1 E0 v3 => (0, 0, 0, 0, 0, 0)
 | .L2 E0 v3 v4 v109 => (0, 0, 0, 0, 0, 0)
theorem Z0e (E0 : Za2) (v3 : Bool) (v4 : Bool) (v109 : Bool) (h : Zt6 (.L2 E0 v3 v4 v109)) : Tot (Zwm E0 v3 v4 v109) (Nx Zt6 Zxm (Zxm (.L2 E0 v3 v4 v109)) (fun r => True)) := by
 have ob30000000 := h
 unfold Zwm
 refine Tot.bif (fun h1 => ?_) (fun h1 => ?_)
 ·refine Tot.bif (fun h2 => ?_) (fun h2 => ?_)
  ·refine Tot.dif (fun h3 => ?_) (fun h3 => ?_)
   ·refine Tot.dif (fun h4 => ?_) (fun h4 => ?_)
    ·exact Tot.inr trivial
    ·exact Tot.inr trivial
   ·exact Tot.inr trivial
  ·exact Tot.inr trivial
 ·exact Tot.inr trivial
theorem Zuy (E0 : Za2) (v3 : Bool) (h : Zt6 (.L1 E0 v3)) : Tot (Zs1 E0 v3) (Nx Zt6 Zxm (Zxm (.L1 E0 v3)) (fun r => True)) := by
 have ob30000000 := h
 unfold Zs1
 refine Tot.ieq (fun h1 => ?_) (fun h1 => ?_)
 ·refine Tot.bind (Z9f E0.Filter ob30000000) (fun x2 h3 => ?_)
  refine Tot.bif (fun h4 => ?_) (fun h4 => ?_)
  ·exact Tot.inr trivial
  ·refine Tot.ieq (fun h5 => ?_) (fun h5 => ?_)
   ·exact Tot.inr trivial
   ·refine Tot.ieq (fun h6 => ?_) (fun h6 => ?_)
    ·exact Tot.inr trivial
    ·exact Tot.inr trivial
 ·refine Tot.ieq (fun h7 => ?_) (fun h7 => ?_)
  ·exact Tot.inr trivial
  ·refine Tot.ieq (fun h8 => ?_) (fun h8 => ?_)
   ·exact Tot.inr trivial
   ·exact Tot.inr trivial
theorem Z0f (E0 : Za2) (v3 : Bool) (v4 : Bool) (h : Zt6 (.L0 E0 v3 v4)) : Tot (Zwn E0 v3 v4) (Nx Zt6 Zxm (Zxm (.L0 E0 v3 v4)) (fun r => True)) := by
 have ob30000000 := h
 unfold Zwn
 refine Tot.ieq (fun h1 => ?_) (fun h1 => ?_)
 ·refine Tot.ine (fun h2 => ?_) (fun h2 => ?_)
  ·refine Tot.ine (fun h3 => ?_) (fun h3 => ?_)
   ·refine Tot.ine (fun h4 => ?_) (fun h4 => ?_)
    ·refine Tot.ine (fun h5 => ?_) (fun h5 => ?_)
     ·exact Tot.inr trivial
     ·exact Tot.join (Zuy E0 v3 ob30000000) (by unfold le6 lt6; dsimp only; omega)
    ·exact Tot.join (Zuy E0 v3 ob30000000) (by unfold le6 lt6; dsimp only; omega)
   ·exact Tot.join (Zuy E0 v3 ob30000000) (by unfold le6 lt6; dsimp only; omega)
  ·exact Tot.join (Zuy E0 v3 ob30000000) (by unfold le6 lt6; dsimp only; omega)
 ·refine Tot.ieq (fun h6 => ?_) (fun h6 => ?_)
  ·refine Tot.bif (fun h7 => ?_) (fun h7 => ?_)
   ·refine Tot.ieq (fun h8 => ?_) (fun h8 => ?_)
    ·refine Tot.bind (Z9f E0.Filter ob30000000) (fun x9 h10 => ?_)
     exact Tot.inr trivial
    ·exact Tot.inr trivial
   ·exact Tot.inr trivial
  ·refine Tot.ieq (fun h11 => ?_) (fun h11 => ?_)
   ·refine Tot.ieq (fun h12 => ?_) (fun h12 => ?_)
    ·refine Tot.dif (fun h13 => ?_) (fun h13 => ?_)
     ·refine Tot.dif (fun h14 => ?_) (fun h14 => ?_)
      ·exact Tot.inr trivial
      ·exact Tot.inr trivial
     ·exact Tot.inr trivial
    ·refine Tot.ieq (fun h15 => ?_) (fun h15 => ?_)
     ·refine Tot.dif (fun h16 => ?_) (fun h16 => ?_)
      ·refine Tot.dif (fun h17 => ?_) (fun h17 => ?_)
       ·exact Tot.inr trivial
       ·exact Tot.inr trivial
      ·exact Tot.inr trivial
     ·exact Tot.inr trivial
   ·refine Tot.ieq (fun h18 => ?_) (fun h18 => ?_)
    ·exact Tot.join (Z0e E0 v3 v4 (E0.On == 4) ob30000000) (by unfold le6 lt6; dsimp only; omega)
    ·refine Tot.ieq (fun h19 => ?_) (fun h19 => ?_)
     ·exact Tot.join (Z0e E0 v3 v4 (E0.On == 5) ob30000000) (by unfold le6 lt6; dsimp only; omega)
     ·exact Tot.join (Z0e E0 v3 v4 (E0.On == 10) ob30000000) (by unfold le6 lt6; dsimp only; omega)
theorem Zbme (a0 : Za2) (oa0 : Zhb a0) : Tot (Zaz9 a0) (fun r => True) := by
 unfold Zaz9
 refine Tot.fin (Inv := Zt6) (μ := Zxm) (m := (1000000, 0, 0, 0, 0, 0)) ?_ ?_
 ·unfold Zawn
  refine Tot.ieq (fun h1 => ?_) (fun h1 => ?_)
  ·refine Tot.bind (Zbbo a0 oa0) (fun x2 h3 => ?_)
   exact Tot.inr trivial
  ·refine Tot.bind (Zbbq a0 oa0) (fun x4 h5 => ?_)
   refine Tot.not (fun h6 => ?_) (fun h6 => ?_)
   ·exact Tot.inr trivial
   ·refine Tot.ieq (fun h7 => ?_) (fun h7 => ?_)
    ·exact Tot.join (Z0f a0 (eqTs (Zx a0.Filter) (Zx (⟨0, 0, 0, 0, 0, 0, 0, ([] : List UInt8), 0, 0, (⟨0, 0⟩ : Ze), (⟨0, 0⟩ : Ze), (⟨0, 0⟩ : Ze)⟩ : Zi))) true (show (Zhb a0) from oa0)) (by unfold le6 lt6; dsimp only; omega)
    ·refine Tot.ieq (fun h8 => ?_) (fun h8 => ?_)
     ·exact Tot.join (Z0f a0 (eqTs (Zx a0.Filter) (Zx (⟨0, 0, 0, 0, 0, 0, 0, ([] : List UInt8), 0, 0, (⟨0, 0⟩ : Ze), (⟨0, 0⟩ : Ze), (⟨0, 0⟩ : Ze)⟩ : Zi))) true (show (Zhb a0) from oa0)) (by unfold le6 lt6; dsimp only; omega)
     ·exact Tot.join (Z0f a0 (eqTs (Zx a0.Filter) (Zx (⟨0, 0, 0, 0, 0, 0, 0, ([] : List UInt8), 0, 0, (⟨0, 0⟩ : Ze), (⟨0, 0⟩ : Ze), (⟨0, 0⟩ : Ze)⟩ : Zi))) (a0.Do == 8) (show (Zhb a0) from oa0)) (by unfold le6 lt6; dsimp only; omega)
 ·intro s hs
  cases s with
  | L0 E0 v3 v4 => exact Z0f E0 v3 v4 hs
  | L1 E0 v3 => exact Zuy E0 v3 hs
  | L2 E0 v3 v4 v109 => exact Z0e E0 v3 v4 v109 hs
abbrev Zbgh : Zop → Prop := fun _ => True
abbrev Zbj8 : Zop → M6 := fun _ => (0, 0, 0, 0, 0, 0)
theorem Zbgi (a0 : Zaj) (oa0 : Zpb a0) : Tot (Zakb a0) (fun r => True) := by
 unfold Zakb
 refine Tot.fin (Inv := Zbgh) (μ := Zbj8) (m := (1000000, 0, 0, 0, 0, 0)) ?_ ?_
 ·unfold Zaka
  refine Tot.not (fun h1 => ?_) (fun h1 => ?_)
  ·refine Tot.bif (fun h2 => ?_) (fun h2 => ?_)
   ·exact Tot.inr trivial
   ·exact Tot.inr trivial
  ·refine Tot.bind (Zmb a0.Filter oa0) (fun x3 h4 => ?_)
   replace h4 : (x3 = true → 0 ≤ a0.Filter.Zone ∧ a0.Filter.Zone ≤ 5 ∧ 0 ≤ a0.Filter.Who ∧ a0.Filter.Who ≤ 2 ∧ 0 ≤ a0.Filter.Self ∧ a0.Filter.Self ≤ 2 ∧ 0 ≤ a0.Filter.Tap ∧ a0.Filter.Tap ≤ 2 ∧ 0 ≤ a0.Filter.Power.Kind ∧ a0.Filter.Power.Kind ≤ 3 ∧ 0 ≤ a0.Filter.Tough.Kind ∧ a0.Filter.Tough.Kind ≤ 3 ∧ 0 ≤ a0.Filter.Value.Kind ∧ a0.Filter.Value.Kind ≤ 3) := h4
   have eh4_0 := h4
   refine Tot.bif (fun h5 => ?_) (fun h5 => ?_)
   ·have h5_0 := eh4_0 h5
    refine Tot.ieq (fun h6 => ?_) (fun h6 => ?_)
    ·exact Tot.inr trivial
    ·refine Tot.ieq (fun h7 => ?_) (fun h7 => ?_)
     ·exact Tot.inr trivial
     ·exact Tot.inr trivial
   ·exact Tot.inr trivial
 ·intro s
  cases s
abbrev Z9g : Zke → Prop
 | .L0 v0 v3 => ((SzL 144 Zpb) v0) ∧ (0 ≤ v3)
abbrev Zxn : Zke → M6
 | .L0 v0 v3 => (1, ((v0.length : Int) - v3).toNat, 1000000, 0, 0, 0)
theorem Zayt (v0 : (List Zaj)) (v3 : Int) (h : Z9g (.L0 v0 v3)) : Tot (Z2q v0 v3) (Nx Z9g Zxn (Zxn (.L0 v0 v3)) (fun r => True)) := by
 obtain ⟨ov0, cv3⟩ := h
 have lb_v0 := ov0.1
 unfold Z2q
 have q1 := ov0.1
 refine Tot.dif (fun h2 => ?_) (fun h2 => ?_)
 ·refine Tot.bind (Tot.idx (by omega) (by omega)) (fun x3 h4 => ?_)
  have oh4 : Zpb x3 := ov0.2 x3 h4.1
  refine Tot.bind (Zbgi x3 oh4) (fun x5 h6 => ?_)
  refine Tot.not (fun h7 => ?_) (fun h7 => ?_)
  ·exact Tot.inr trivial
  ·have q8 := Za3 (v3 + 1)
   have q9 := Za4 (v3 + 1)
   exact Tot.inl ⟨ov0, (by omega)⟩ (by unfold Zxn lt6; dsimp only; omega)
 ·exact Tot.inr trivial
theorem Zbbr (a0 : (List Zaj)) (oa0 : (SzL 144 Zpb) a0) : Tot (Zae3 a0) (fun r => True) := by
 unfold Zae3
 refine Tot.fin (Inv := Z9g) (μ := Zxn) (m := (1000000, 0, 0, 0, 0, 0)) ?_ ?_
 ·have lb_a0 := oa0.1
  unfold Zags
  exact Tot.inl ⟨oa0, (by omega)⟩ (by unfold Zxn lt6; dsimp only; omega)
 ·intro s hs
  cases s with
  | L0 v0 v3 => exact Zayt v0 v3 hs
abbrev Zbgj : Zoq → Prop := fun _ => True
abbrev Zbj9 : Zoq → M6 := fun _ => (0, 0, 0, 0, 0, 0)
theorem Zbgk (a0 : Int) : Tot (Zakd a0) (fun r => (SzN r)) := by
 unfold Zakd
 refine Tot.fin (Inv := Zbgj) (μ := Zbj9) (m := (1000000, 0, 0, 0, 0, 0)) ?_ ?_
 ·unfold Zakc
  refine Tot.dif (fun h1 => ?_) (fun h1 => ?_)
  ·exact Tot.inr (show (SzN ([] : List UInt8)) from (SzN.nil))
  ·refine Tot.dif (fun h2 => ?_) (fun h2 => ?_)
   ·exact Tot.inr (show (SzN ([] : List UInt8)) from (SzN.nil))
   ·have q3 : (SzL 16 SzN) [([100, 97, 109, 97, 103, 101] : List UInt8), ([100, 101, 115, 116, 114, 111, 121] : List UInt8), ([109, 111, 118, 101] : List UInt8), ([100, 114, 97, 119] : List UInt8), ([100, 105, 115, 99, 97, 114, 100] : List UInt8), ([103, 97, 105, 110] : List UInt8), ([108, 111, 115, 101] : List UInt8), ([116, 97, 112] : List UInt8), ([117, 110, 116, 97, 112] : List UInt8), ([112, 117, 116] : List UInt8), ([116, 97, 107, 101] : List UInt8), ([99, 114, 101, 97, 116, 101] : List UInt8), ([109, 111, 100] : List UInt8), ([109, 97, 110, 97] : List UInt8), ([99, 111, 117, 110, 116, 101, 114] : List UInt8), ([99, 111, 112, 121] : List UInt8), ([98, 101, 99, 111, 109, 101] : List UInt8), ([115, 97, 99, 114, 105, 102, 105, 99, 101] : List UInt8), ([109, 105, 108, 108] : List UInt8), ([115, 99, 114, 121] : List UInt8), ([115, 101, 97, 114, 99, 104] : List UInt8), ([115, 104, 105, 101, 108, 100] : List UInt8), ([116, 117, 114, 110] : List UInt8), ([119, 105, 110] : List UInt8), ([100, 101, 102, 101, 97, 116] : List UInt8), ([118, 101, 110, 111, 109] : List UInt8)] := ⟨by simp only [List.length_cons, List.length_nil]; omega, (mem_cons' (by unfold SzN; first | omega | (simp only [List.length_append, List.length_cons, List.length_nil]; omega)) (mem_cons' (by unfold SzN; first | omega | (simp only [List.length_append, List.length_cons, List.length_nil]; omega)) (mem_cons' (by unfold SzN; first | omega | (simp only [List.length_append, List.length_cons, List.length_nil]; omega)) (mem_cons' (by unfold SzN; first | omega | (simp only [List.length_append, List.length_cons, List.length_nil]; omega)) (mem_cons' (by unfold SzN; first | omega | (simp only [List.length_append, List.length_cons, List.length_nil]; omega)) (mem_cons' (by unfold SzN; first | omega | (simp only [List.length_append, List.length_cons, List.length_nil]; omega)) (mem_cons' (by unfold SzN; first | omega | (simp only [List.length_append, List.length_cons, List.length_nil]; omega)) (mem_cons' (by unfold SzN; first | omega | (simp only [List.length_append, List.length_cons, List.length_nil]; omega)) (mem_cons' (by unfold SzN; first | omega | (simp only [List.length_append, List.length_cons, List.length_nil]; omega)) (mem_cons' (by unfold SzN; first | omega | (simp only [List.length_append, List.length_cons, List.length_nil]; omega)) (mem_cons' (by unfold SzN; first | omega | (simp only [List.length_append, List.length_cons, List.length_nil]; omega)) (mem_cons' (by unfold SzN; first | omega | (simp only [List.length_append, List.length_cons, List.length_nil]; omega)) (mem_cons' (by unfold SzN; first | omega | (simp only [List.length_append, List.length_cons, List.length_nil]; omega)) (mem_cons' (by unfold SzN; first | omega | (simp only [List.length_append, List.length_cons, List.length_nil]; omega)) (mem_cons' (by unfold SzN; first | omega | (simp only [List.length_append, List.length_cons, List.length_nil]; omega)) (mem_cons' (by unfold SzN; first | omega | (simp only [List.length_append, List.length_cons, List.length_nil]; omega)) (mem_cons' (by unfold SzN; first | omega | (simp only [List.length_append, List.length_cons, List.length_nil]; omega)) (mem_cons' (by unfold SzN; first | omega | (simp only [List.length_append, List.length_cons, List.length_nil]; omega)) (mem_cons' (by unfold SzN; first | omega | (simp only [List.length_append, List.length_cons, List.length_nil]; omega)) (mem_cons' (by unfold SzN; first | omega | (simp only [List.length_append, List.length_cons, List.length_nil]; omega)) (mem_cons' (by unfold SzN; first | omega | (simp only [List.length_append, List.length_cons, List.length_nil]; omega)) (mem_cons' (by unfold SzN; first | omega | (simp only [List.length_append, List.length_cons, List.length_nil]; omega)) (mem_cons' (by unfold SzN; first | omega | (simp only [List.length_append, List.length_cons, List.length_nil]; omega)) (mem_cons' (by unfold SzN; first | omega | (simp only [List.length_append, List.length_cons, List.length_nil]; omega)) (mem_cons' (by unfold SzN; first | omega | (simp only [List.length_append, List.length_cons, List.length_nil]; omega)) (mem_cons' (by unfold SzN; first | omega | (simp only [List.length_append, List.length_cons, List.length_nil]; omega)) (fun _ h => by cases h)))))))))))))))))))))))))))⟩
    have lq3 : [([100, 97, 109, 97, 103, 101] : List UInt8), ([100, 101, 115, 116, 114, 111, 121] : List UInt8), ([109, 111, 118, 101] : List UInt8), ([100, 114, 97, 119] : List UInt8), ([100, 105, 115, 99, 97, 114, 100] : List UInt8), ([103, 97, 105, 110] : List UInt8), ([108, 111, 115, 101] : List UInt8), ([116, 97, 112] : List UInt8), ([117, 110, 116, 97, 112] : List UInt8), ([112, 117, 116] : List UInt8), ([116, 97, 107, 101] : List UInt8), ([99, 114, 101, 97, 116, 101] : List UInt8), ([109, 111, 100] : List UInt8), ([109, 97, 110, 97] : List UInt8), ([99, 111, 117, 110, 116, 101, 114] : List UInt8), ([99, 111, 112, 121] : List UInt8), ([98, 101, 99, 111, 109, 101] : List UInt8), ([115, 97, 99, 114, 105, 102, 105, 99, 101] : List UInt8), ([109, 105, 108, 108] : List UInt8), ([115, 99, 114, 121] : List UInt8), ([115, 101, 97, 114, 99, 104] : List UInt8), ([115, 104, 105, 101, 108, 100] : List UInt8), ([116, 117, 114, 110] : List UInt8), ([119, 105, 110] : List UInt8), ([100, 101, 102, 101, 97, 116] : List UInt8), ([118, 101, 110, 111, 109] : List UInt8)].length = 26 := rfl
    have q4 := Za3 (a0 - 1)
    have q5 := Za4 (a0 - 1)
    refine Tot.bind (Tot.idx (by omega) (by omega)) (fun x6 h7 => ?_)
    have oh7 : SzN x6 := q3.2 x6 h7.1
    exact Tot.inr (show (SzN x6) from oh7)
 ·intro s
  cases s
abbrev Zxo : Zjm → Prop
 | .L0 v3 v4 => True
 | .L1 v3 v14 => True
abbrev Zzi : Zjm → M6
 | .L0 v3 v4 => (0, 0, 0, 0, 0, 0)
 | .L1 v3 v14 => (0, 0, 0, 0, 0, 0)
theorem Z4j (v3 : Int) (v14 : Bool) (h : Zxo (.L1 v3 v14)) : Tot (Zu2 v3 v14) (Nx Zxo Zzi (Zzi (.L1 v3 v14)) (fun r => (SzN r))) := by
 unfold Zu2
 refine Tot.bif (fun h1 => ?_) (fun h1 => ?_)
 ·exact Tot.inr (show (SzN ([114, 107, 97] : List UInt8)) from (by unfold SzN; first | omega | (simp only [List.length_append, List.length_cons, List.length_nil]; omega)))
 ·refine Tot.ieq (fun h2 => ?_) (fun h2 => ?_)
  ·exact Tot.inr (show (SzN ([114, 99, 97] : List UInt8)) from (by unfold SzN; first | omega | (simp only [List.length_append, List.length_cons, List.length_nil]; omega)))
  ·refine Tot.ieq (fun h3 => ?_) (fun h3 => ?_)
   ·exact Tot.inr (show (SzN ([114, 109] : List UInt8)) from (by unfold SzN; first | omega | (simp only [List.length_append, List.length_cons, List.length_nil]; omega)))
   ·refine Tot.ieq (fun h4 => ?_) (fun h4 => ?_)
    ·exact Tot.inr (show (SzN ([112] : List UInt8)) from (by unfold SzN; first | omega | (simp only [List.length_append, List.length_cons, List.length_nil]; omega)))
    ·refine Tot.ieq (fun h5 => ?_) (fun h5 => ?_)
     ·exact Tot.inr (show (SzN ([114, 97, 102] : List UInt8)) from (by unfold SzN; first | omega | (simp only [List.length_append, List.length_cons, List.length_nil]; omega)))
     ·refine Tot.ieq (fun h6 => ?_) (fun h6 => ?_)
      ·exact Tot.inr (show (SzN ([97] : List UInt8)) from (by unfold SzN; first | omega | (simp only [List.length_append, List.length_cons, List.length_nil]; omega)))
      ·refine Tot.ieq (fun h7 => ?_) (fun h7 => ?_)
       ·exact Tot.inr (show (SzN ([102] : List UInt8)) from (by unfold SzN; first | omega | (simp only [List.length_append, List.length_cons, List.length_nil]; omega)))
       ·refine Tot.ieq (fun h8 => ?_) (fun h8 => ?_)
        ·exact Tot.inr (show (SzN ([] : List UInt8)) from (SzN.nil))
        ·refine Tot.ieq (fun h9 => ?_) (fun h9 => ?_)
         ·exact Tot.inr (show (SzN ([] : List UInt8)) from (SzN.nil))
         ·exact Tot.inr (show (SzN ([114, 97] : List UInt8)) from (by unfold SzN; first | omega | (simp only [List.length_append, List.length_cons, List.length_nil]; omega)))
theorem Zj7 (v3 : Int) (v4 : Bool) (h : Zxo (.L0 v3 v4)) : Tot (Zkf v3 v4) (Nx Zxo Zzi (Zzi (.L0 v3 v4)) (fun r => (SzN r))) := by
 unfold Zkf
 refine Tot.bif (fun h1 => ?_) (fun h1 => ?_)
 ·exact Tot.inr (show (SzN ([114] : List UInt8)) from (by unfold SzN; first | omega | (simp only [List.length_append, List.length_cons, List.length_nil]; omega)))
 ·refine Tot.ieq (fun h2 => ?_) (fun h2 => ?_)
  ·exact Tot.inr (show (SzN ([114, 122] : List UInt8)) from (by unfold SzN; first | omega | (simp only [List.length_append, List.length_cons, List.length_nil]; omega)))
  ·refine Tot.ieq (fun h3 => ?_) (fun h3 => ?_)
   ·exact Tot.join (Z4j v3 (v3 == 10) trivial) (by unfold le6 lt6; dsimp only; omega)
   ·exact Tot.join (Z4j v3 (v3 == 11) trivial) (by unfold le6 lt6; dsimp only; omega)
theorem Zbgl (a0 : Int) : Tot (Zakf a0) (fun r => (SzN r)) := by
 unfold Zakf
 refine Tot.fin (Inv := Zxo) (μ := Zzi) (m := (1000000, 0, 0, 0, 0, 0)) ?_ ?_
 ·unfold Zake
  refine Tot.ieq (fun h1 => ?_) (fun h1 => ?_)
  ·exact Tot.join (Zj7 a0 (a0 == 2) trivial) (by unfold le6 lt6; dsimp only; omega)
  ·refine Tot.ieq (fun h2 => ?_) (fun h2 => ?_)
   ·exact Tot.join (Zj7 a0 (a0 == 8) trivial) (by unfold le6 lt6; dsimp only; omega)
   ·refine Tot.ieq (fun h3 => ?_) (fun h3 => ?_)
    ·exact Tot.join (Zj7 a0 (a0 == 9) trivial) (by unfold le6 lt6; dsimp only; omega)
    ·refine Tot.ieq (fun h4 => ?_) (fun h4 => ?_)
     ·exact Tot.join (Zj7 a0 (a0 == 15) trivial) (by unfold le6 lt6; dsimp only; omega)
     ·refine Tot.ieq (fun h5 => ?_) (fun h5 => ?_)
      ·exact Tot.join (Zj7 a0 (a0 == 16) trivial) (by unfold le6 lt6; dsimp only; omega)
      ·refine Tot.ieq (fun h6 => ?_) (fun h6 => ?_)
       ·exact Tot.join (Zj7 a0 (a0 == 17) trivial) (by unfold le6 lt6; dsimp only; omega)
       ·exact Tot.join (Zj7 a0 (a0 == 25) trivial) (by unfold le6 lt6; dsimp only; omega)
 ·intro s hs
  cases s with
  | L0 v3 v4 => exact Zj7 v3 v4 hs
  | L1 v3 v14 => exact Z4j v3 v14 hs
abbrev Zaee : Zlp → Prop
 | .L0 v1 v5 v6 => (SzT v5) ∧ (0 ≤ v6)
abbrev Zzj : Zlp → M6
 | .L0 v1 v5 v6 => (1, ((v5.length : Int) - v6).toNat, 1000000, 0, 0, 0)
theorem Za3j (v1 : Int) (v5 : (List UInt8)) (v6 : Int) (h : Zaee (.L0 v1 v5 v6)) : Tot (Z6s v1 v5 v6) (Nx Zaee Zzj (Zzj (.L0 v1 v5 v6)) (fun r => True)) := by
 obtain ⟨ov5, cv6⟩ := h
 have lb_v5 : v5.length ≤ 562949953421312 := ov5
 unfold Z6s
 have q1 : v5.length ≤ 562949953421312 := ov5
 refine Tot.dif (fun h2 => ?_) (fun h2 => ?_)
 ·refine Tot.bind (Tot.idx (by omega) (by omega)) (fun x3 h4 => ?_)
  refine Tot.ieq (fun h5 => ?_) (fun h5 => ?_)
  ·exact Tot.inr trivial
  ·have q6 := Za3 (v6 + 1)
   have q7 := Za4 (v6 + 1)
   exact Tot.inl ⟨ov5, (by omega)⟩ (by unfold Zzj lt6; dsimp only; omega)
 ·exact Tot.inr trivial
theorem Zny (a0 : Int) (a1 : Int) : Tot (Zpk a0 a1) (fun r => True) := by
 unfold Zpk
 refine Tot.fin (Inv := Zaee) (μ := Zzj) (m := (1000000, 0, 0, 0, 0, 0)) ?_ ?_
 ·unfold Zakg
  refine Tot.bind (Zbgl a0) (fun x1 h2 => ?_)
  replace h2 : (SzN x1) := h2
  exact Tot.inl ⟨(SzN.t h2), (by omega)⟩ (by unfold Zzj lt6; dsimp only; omega)
 ·intro s hs
  cases s with
  | L0 v1 v5 v6 => exact Za3j v1 v5 v6 hs
abbrev Zayu : Zjn → Prop := fun _ => True
abbrev Za3k : Zjn → M6 := fun _ => (0, 0, 0, 0, 0, 0)
theorem Zayv (a0 : Int) : Tot (Z2r a0) (fun r => True) := by
 unfold Z2r
 refine Tot.fin (Inv := Zayu) (μ := Za3k) (m := (1000000, 0, 0, 0, 0, 0)) ?_ ?_
 ·unfold Z5f
  refine Tot.ieq (fun h1 => ?_) (fun h1 => ?_)
  ·exact Tot.inr trivial
  ·exact Tot.inr trivial
 ·intro s
  cases s
abbrev Z4k : Zmt → Prop
 | .L0 v1 E0 => (Z4c E0)
 | .L1 E0 => (Z4c E0)
abbrev Z74 : Zmt → M6
 | .L0 v1 E0 => (0, 0, 0, 0, 0, 0)
 | .L1 E0 => (0, 0, 0, 0, 0, 0)
theorem Z9h (E0 : Zgp) (h : Z4k (.L1 E0)) : Tot (Z1n E0) (Nx Z4k Z74 (Z74 (.L1 E0)) (fun r => True)) := by
 have ob30000000 := h
 unfold Z1n
 refine Tot.ieq (fun h1 => ?_) (fun h1 => ?_)
 ·refine Tot.bind (Zmb E0.Filter ob30000000) (fun x2 h3 => ?_)
  replace h3 : (x2 = true → 0 ≤ E0.Filter.Zone ∧ E0.Filter.Zone ≤ 5 ∧ 0 ≤ E0.Filter.Who ∧ E0.Filter.Who ≤ 2 ∧ 0 ≤ E0.Filter.Self ∧ E0.Filter.Self ≤ 2 ∧ 0 ≤ E0.Filter.Tap ∧ E0.Filter.Tap ≤ 2 ∧ 0 ≤ E0.Filter.Power.Kind ∧ E0.Filter.Power.Kind ≤ 3 ∧ 0 ≤ E0.Filter.Tough.Kind ∧ E0.Filter.Tough.Kind ≤ 3 ∧ 0 ≤ E0.Filter.Value.Kind ∧ E0.Filter.Value.Kind ≤ 3) := h3
  have eh3_0 := h3
  exact Tot.inr trivial
 ·exact Tot.inr trivial
theorem Z9i (v1 : Int) (E0 : Zgp) (h : Z4k (.L0 v1 E0)) : Tot (Z1o v1 E0) (Nx Z4k Z74 (Z74 (.L0 v1 E0)) (fun r => True)) := by
 have ob30000000 := h
 unfold Z1o
 refine Tot.dif (fun h1 => ?_) (fun h1 => ?_)
 ·exact Tot.inr trivial
 ·refine Tot.dif (fun h2 => ?_) (fun h2 => ?_)
  ·exact Tot.inr trivial
  ·refine Tot.bind (Zayv E0.Kind) (fun x3 h4 => ?_)
   refine Tot.bif (fun h5 => ?_) (fun h5 => ?_)
   ·refine Tot.dif (fun h6 => ?_) (fun h6 => ?_)
    ·exact Tot.inr trivial
    ·refine Tot.dif (fun h7 => ?_) (fun h7 => ?_)
     ·exact Tot.inr trivial
     ·exact Tot.join (Z9h E0 ob30000000) (by unfold le6 lt6; dsimp only; omega)
   ·refine Tot.ine (fun h8 => ?_) (fun h8 => ?_)
    ·exact Tot.inr trivial
    ·exact Tot.join (Z9h E0 ob30000000) (by unfold le6 lt6; dsimp only; omega)
theorem Zbmf (a0 : Zgp) (a1 : Int) (oa0 : Z4c a0) : Tot (Za0a a0 a1) (fun r => True) := by
 unfold Za0a
 refine Tot.fin (Inv := Z4k) (μ := Z74) (m := (1000000, 0, 0, 0, 0, 0)) ?_ ?_
 ·unfold Zawo
  refine Tot.dif (fun h1 => ?_) (fun h1 => ?_)
  ·exact Tot.join (Z9i 4 a0 oa0) (by unfold le6 lt6; dsimp only; omega)
  ·exact Tot.join (Z9i a1 a0 oa0) (by unfold le6 lt6; dsimp only; omega)
 ·intro s hs
  cases s with
  | L0 v1 E0 => exact Z9i v1 E0 hs
  | L1 E0 => exact Z9h E0 hs
abbrev Zbgm : Zor → Prop := fun _ => True
abbrev Zbka : Zor → M6 := fun _ => (0, 0, 0, 0, 0, 0)
theorem Zar6 (a0 : Int) : Tot (Zabo a0) (fun r => (SzN r)) := by
 unfold Zabo
 refine Tot.fin (Inv := Zbgm) (μ := Zbka) (m := (1000000, 0, 0, 0, 0, 0)) ?_ ?_
 ·unfold Zakh
  refine Tot.ieq (fun h1 => ?_) (fun h1 => ?_)
  ·exact Tot.inr (show (SzN ([112, 108, 117, 115] : List UInt8)) from (by unfold SzN; first | omega | (simp only [List.length_append, List.length_cons, List.length_nil]; omega)))
  ·refine Tot.ieq (fun h2 => ?_) (fun h2 => ?_)
   ·exact Tot.inr (show (SzN ([109, 105, 110, 117, 115] : List UInt8)) from (by unfold SzN; first | omega | (simp only [List.length_append, List.length_cons, List.length_nil]; omega)))
   ·refine Tot.ieq (fun h3 => ?_) (fun h3 => ?_)
    ·exact Tot.inr (show (SzN ([99, 104, 97, 114, 103, 101] : List UInt8)) from (by unfold SzN; first | omega | (simp only [List.length_append, List.length_cons, List.length_nil]; omega)))
    ·exact Tot.inr (show (SzN ([] : List UInt8)) from (SzN.nil))
 ·intro s
  cases s
abbrev Zbmg : Ztg → Prop := fun _ => True
abbrev Zboa : Ztg → M6 := fun _ => (0, 0, 0, 0, 0, 0)
theorem Zbmh (a0 : Zd3) (oa0 : Z85 a0) : Tot (Za0b a0) (fun r => True) := by
 unfold Za0b
 refine Tot.fin (Inv := Zbmg) (μ := Zboa) (m := (1000000, 0, 0, 0, 0, 0)) ?_ ?_
 ·unfold Zawp
  refine Tot.ieq (fun h1 => ?_) (fun h1 => ?_)
  ·refine Tot.dif (fun h2 => ?_) (fun h2 => ?_)
   ·exact Tot.inr trivial
   ·refine Tot.dif (fun h3 => ?_) (fun h3 => ?_)
    ·exact Tot.inr trivial
    ·refine Tot.dif (fun h4 => ?_) (fun h4 => ?_)
     ·refine Tot.dif (fun h5 => ?_) (fun h5 => ?_)
      ·exact Tot.inr trivial
      ·exact Tot.inr trivial
     ·exact Tot.inr trivial
  ·refine Tot.ieq (fun h6 => ?_) (fun h6 => ?_)
   ·refine Tot.dif (fun h7 => ?_) (fun h7 => ?_)
    ·exact Tot.inr trivial
    ·refine Tot.dif (fun h8 => ?_) (fun h8 => ?_)
     ·exact Tot.inr trivial
     ·refine Tot.bind (Zmb a0.Filter oa0) (fun x9 h10 => ?_)
      replace h10 : (x9 = true → 0 ≤ a0.Filter.Zone ∧ a0.Filter.Zone ≤ 5 ∧ 0 ≤ a0.Filter.Who ∧ a0.Filter.Who ≤ 2 ∧ 0 ≤ a0.Filter.Self ∧ a0.Filter.Self ≤ 2 ∧ 0 ≤ a0.Filter.Tap ∧ a0.Filter.Tap ≤ 2 ∧ 0 ≤ a0.Filter.Power.Kind ∧ a0.Filter.Power.Kind ≤ 3 ∧ 0 ≤ a0.Filter.Tough.Kind ∧ a0.Filter.Tough.Kind ≤ 3 ∧ 0 ≤ a0.Filter.Value.Kind ∧ a0.Filter.Value.Kind ≤ 3) := h10
      have eh10_0 := h10
      refine Tot.not (fun h11 => ?_) (fun h11 => ?_)
      ·exact Tot.inr trivial
      ·have h11_0 := eh10_0 h11
       refine Tot.dif (fun h12 => ?_) (fun h12 => ?_)
       ·refine Tot.dif (fun h13 => ?_) (fun h13 => ?_)
        ·exact Tot.inr trivial
        ·exact Tot.inr trivial
       ·exact Tot.inr trivial
   ·refine Tot.ieq (fun h14 => ?_) (fun h14 => ?_)
    ·refine Tot.bind (Zar6 a0.Counter) (fun x15 h16 => ?_)
     replace h16 : (SzN x15) := h16
     refine Tot.bif (fun h17 => ?_) (fun h17 => ?_)
     ·exact Tot.inr trivial
     ·refine Tot.dif (fun h18 => ?_) (fun h18 => ?_)
      ·refine Tot.dif (fun h19 => ?_) (fun h19 => ?_)
       ·exact Tot.inr trivial
       ·exact Tot.inr trivial
      ·exact Tot.inr trivial
    ·refine Tot.dif (fun h20 => ?_) (fun h20 => ?_)
     ·refine Tot.dif (fun h21 => ?_) (fun h21 => ?_)
      ·exact Tot.inr trivial
      ·exact Tot.inr trivial
     ·exact Tot.inr trivial
 ·intro s
  cases s
abbrev Zbgn : Zos → Prop := fun _ => True
abbrev Zbkb : Zos → M6 := fun _ => (0, 0, 0, 0, 0, 0)
theorem Zbgo (a0 : (List Zh)) (oa0 : (SzL 176 Zau) a0) : Tot (Zakj a0) (fun r => True) := by
 unfold Zakj
 refine Tot.fin (Inv := Zbgn) (μ := Zbkb) (m := (1000000, 0, 0, 0, 0, 0)) ?_ ?_
 ·have lb_a0 := oa0.1
  unfold Zaki
  refine Tot.bind (Z07 a0 oa0) (fun x1 h2 => ?_)
  replace h2 : (x1.length ≤ 4611686018427387904) := h2
  have eh2_0 := h2
  try simp only [List.length_nil, List.length_cons, Nat.zero_add] at eh2_0
  exact Tot.inr trivial
 ·intro s
  cases s
abbrev Zaef : Zlq → Prop
 | .L0 E0 E1 E2 v4 => (0 ≤ v4)
abbrev Zzk : Zlq → M6
 | .L0 E0 E1 E2 v4 => (1, (5 - v4).toNat, 1000000, 0, 0, 0)
theorem Za3l (E0 : (A6 Int)) (E1 : Zai) (E2 : Zai) (v4 : Int) (h : Zaef (.L0 E0 E1 E2 v4)) : Tot (Z6t E0 E1 E2 v4) (Nx Zaef Zzk (Zzk (.L0 E0 E1 E2 v4)) (fun r => True)) := by
 have cv4 := h
 unfold Z6t
 refine Tot.dif (fun h1 => ?_) (fun h1 => ?_)
 ·have q2 := Za3 (v4 + 1)
  have q3 := Za4 (v4 + 1)
  refine Tot.bind (Tot.idx (by omega) (by have e : (A6.list E0).length = 6 := rfl; omega)) (fun x4 h5 => ?_)
  refine Tot.bind (Tot.idx (by omega) (by have e : (A5.list E2.Color).length = 5 := rfl; omega)) (fun x6 h7 => ?_)
  refine Tot.bind (Tot.setA5 (by omega) (by omega)) (fun x8 h9 => ?_)
  exact Tot.inl (by omega) (by unfold Zzk lt6; dsimp only; omega)
 ·exact Tot.inr trivial
theorem Zbgp (a0 : (A6 Int)) : Tot (Zakl a0) (fun r => True) := by
 unfold Zakl
 refine Tot.fin (Inv := Zaef) (μ := Zzk) (m := (1000000, 0, 0, 0, 0, 0)) ?_ ?_
 ·unfold Zakk
  refine Tot.bind (Tot.idx (by omega) (by have e : (A6.list a0).length = 6 := rfl; omega)) (fun x1 h2 => ?_)
  exact Tot.inl (by omega) (by unfold Zzk lt6; dsimp only; omega)
 ·intro s hs
  cases s with
  | L0 E0 E1 E2 v4 => exact Za3l E0 E1 E2 v4 hs
abbrev Zps : Zhq → Prop
 | .L0 E0 v3 v4 => (0 ≤ v4) ∧ (E0.X ≤ 2) ∧ (∀ n, n ∈ A5.list E0.Color → n ≤ 9) ∧ (v3.length ≤ v4.toNat) ∧ (v4 ≤ 2)
 | .L1 E0 v3 v5 => (0 ≤ v5) ∧ (v3.length ≤ 200 + 200 * v5.toNat) ∧ (∀ n, n ∈ A5.list E0.Color → n ≤ 9) ∧ (v5 ≤ 5)
 | .L2 E0 v3 v5 v6 => (0 ≤ v5) ∧ (0 ≤ v6) ∧ (v5 < 5) ∧ (v3.length ≤ 200 + 200 * v5.toNat + v6.toNat) ∧ (∀ n, n ∈ A5.list E0.Color → n ≤ 9) ∧ (v5 < 5) ∧ (v6 ≤ 9)
abbrev Zhh : Zhq → M6
 | .L0 E0 v3 v4 => (3, (E0.X - v4).toNat, 1000000, 0, 0, 0)
 | .L1 E0 v3 v5 => (1, (5 - v5).toNat, 1000000, 0, 0, 0)
 | .L2 E0 v3 v5 v6 => (1, (5 - v5).toNat, 1, (9 - v6).toNat, 1000000, 0)
theorem Za3m (E0 : Zai) (v3 : (List UInt8)) (v4 : Int) (h : Zps (.L0 E0 v3 v4)) : Tot (Z6u E0 v3 v4) (Nx Zps Zhh (Zhh (.L0 E0 v3 v4)) (fun r => (SzT r))) := by
 obtain ⟨cv4, i0, i1, i2, i3⟩ := h
 unfold Z6u
 refine Tot.dif (fun h1 => ?_) (fun h1 => ?_)
 ·refine Tot.bind (Tot.okd (by first | (simp only [List.length_append, List.length_cons, List.length_nil]; omega) | omega)) (fun x2 h3 => ?_)
  have q4 := Za3 (v4 + 1)
  have q5 := Za4 (v4 + 1)
  exact Tot.inl ⟨(by first | omega | (simp only [List.length_append, List.length_cons, List.length_nil]; omega) | trivial | decide | assumption | exact shl_ne' (by omega) (by omega) | (simp; done) | (simp; omega)), (by first | omega | (simp only [List.length_append, List.length_cons, List.length_nil]; omega) | trivial | decide | assumption | exact shl_ne' (by omega) (by omega) | (simp; done) | (simp; omega)), (by first | omega | (simp only [List.length_append, List.length_cons, List.length_nil]; omega) | trivial | decide | assumption | exact shl_ne' (by omega) (by omega) | (simp; done) | (simp; omega)), (by first | omega | (simp only [List.length_append, List.length_cons, List.length_nil]; omega) | trivial | decide | assumption | exact shl_ne' (by omega) (by omega) | (simp; done) | (simp; omega)), (by first | omega | (simp only [List.length_append, List.length_cons, List.length_nil]; omega) | trivial | decide | assumption | exact shl_ne' (by omega) (by omega) | (simp; done) | (simp; omega))⟩ (by unfold Zhh lt6; dsimp only; omega)
 ·refine Tot.ine (fun h6 => ?_) (fun h6 => ?_)
  ·refine Tot.bind (Zsj E0.Generic) (fun x7 h8 => ?_)
   replace h8 : (SzN x7) := h8
   have q9 : x7.length ≤ 100 := h8
   refine Tot.bind (Tot.okd (by first | (simp only [List.length_append, List.length_cons, List.length_nil]; omega) | omega)) (fun x10 h11 => ?_)
   exact Tot.inl ⟨(by first | omega | (simp only [List.length_append, List.length_cons, List.length_nil]; omega) | trivial | decide | assumption | exact shl_ne' (by omega) (by omega) | (simp; done) | (simp; omega)), (by first | omega | (simp only [List.length_append, List.length_cons, List.length_nil]; omega) | trivial | decide | assumption | exact shl_ne' (by omega) (by omega) | (simp; done) | (simp; omega)), (by first | omega | (simp only [List.length_append, List.length_cons, List.length_nil]; omega) | trivial | decide | assumption | exact shl_ne' (by omega) (by omega) | (simp; done) | (simp; omega)), (by first | omega | (simp only [List.length_append, List.length_cons, List.length_nil]; omega) | trivial | decide | assumption | exact shl_ne' (by omega) (by omega) | (simp; done) | (simp; omega))⟩ (by unfold Zhh lt6; dsimp only; omega)
  ·exact Tot.inl ⟨(by omega), (by omega), (by omega), (by omega)⟩ (by unfold Zhh lt6; dsimp only; omega)
theorem Za3n (E0 : Zai) (v3 : (List UInt8)) (v5 : Int) (h : Zps (.L1 E0 v3 v5)) : Tot (Z6v E0 v3 v5) (Nx Zps Zhh (Zhh (.L1 E0 v3 v5)) (fun r => (SzT r))) := by
 obtain ⟨cv5, i0, i1, i2⟩ := h
 unfold Z6v
 refine Tot.dif (fun h1 => ?_) (fun h1 => ?_)
 ·exact Tot.inl ⟨(by omega), (by omega), (by omega), (by omega), (by omega), (by omega), (by omega)⟩ (by unfold Zhh lt6; dsimp only; omega)
 ·refine Tot.bif (fun h2 => ?_) (fun h2 => ?_)
  ·exact Tot.inr (show (SzT ([48] : List UInt8)) from (by unfold SzT; first | omega | (simp only [List.length_append, List.length_cons, List.length_nil]; omega)))
  ·exact Tot.inr (show (SzT v3) from (by unfold SzT; first | omega | (simp only [List.length_append, List.length_cons, List.length_nil]; omega)))
theorem Za3o (E0 : Zai) (v3 : (List UInt8)) (v5 : Int) (v6 : Int) (h : Zps (.L2 E0 v3 v5 v6)) : Tot (Z6w E0 v3 v5 v6) (Nx Zps Zhh (Zhh (.L2 E0 v3 v5 v6)) (fun r => (SzT r))) := by
 obtain ⟨cv5, cv6, bd2, i0, i1, i2, i3⟩ := h
 unfold Z6w
 refine Tot.bind (Tot.idx (by omega) (by have e : (A5.list E0.Color).length = 5 := rfl; omega)) (fun x1 h2 => ?_)
 have ph2 := i1 x1 h2.1
 refine Tot.dif (fun h3 => ?_) (fun h3 => ?_)
 ·have q4 := Za3 (v5 + 1)
  have q5 := Za4 (v5 + 1)
  refine Tot.bind ((by  exact Tot.slice (by omega) (by omega) (by first | omega | (simp only [List.length_cons, List.length_nil]; omega)))) (fun x6 h7 => ?_)
  have lh7 := h7.1
  refine Tot.bind (Tot.okd (by first | (simp only [List.length_append, List.length_cons, List.length_nil]; omega) | omega)) (fun x8 h9 => ?_)
  have q10 := Za3 (v6 + 1)
  have q11 := Za4 (v6 + 1)
  exact Tot.inl ⟨(by first | omega | (simp only [List.length_append, List.length_cons, List.length_nil]; omega) | trivial | decide | assumption | exact shl_ne' (by omega) (by omega) | (simp; done) | (simp; omega)), (by first | omega | (simp only [List.length_append, List.length_cons, List.length_nil]; omega) | trivial | decide | assumption | exact shl_ne' (by omega) (by omega) | (simp; done) | (simp; omega)), (by first | omega | (simp only [List.length_append, List.length_cons, List.length_nil]; omega) | trivial | decide | assumption | exact shl_ne' (by omega) (by omega) | (simp; done) | (simp; omega)), (by first | omega | (simp only [List.length_append, List.length_cons, List.length_nil]; omega) | trivial | decide | assumption | exact shl_ne' (by omega) (by omega) | (simp; done) | (simp; omega)), (by first | omega | (simp only [List.length_append, List.length_cons, List.length_nil]; omega) | trivial | decide | assumption | exact shl_ne' (by omega) (by omega) | (simp; done) | (simp; omega)), (by first | omega | (simp only [List.length_append, List.length_cons, List.length_nil]; omega) | trivial | decide | assumption | exact shl_ne' (by omega) (by omega) | (simp; done) | (simp; omega)), (by first | omega | (simp only [List.length_append, List.length_cons, List.length_nil]; omega) | trivial | decide | assumption | exact shl_ne' (by omega) (by omega) | (simp; done) | (simp; omega))⟩ (by unfold Zhh lt6; dsimp only; omega)
 ·have q12 := Za3 (v5 + 1)
  have q13 := Za4 (v5 + 1)
  exact Tot.inl ⟨(by omega), (by omega), (by omega), (by omega)⟩ (by unfold Zhh lt6; dsimp only; omega)
theorem Zbgq (a0 : Zai) : Tot (Zakn a0) (fun r => (SzT r)) := by
 unfold Zakn
 refine Tot.fin (Inv := Zps) (μ := Zhh) (m := (1000000, 0, 0, 0, 0, 0)) ?_ ?_
 ·unfold Zakm
  refine Tot.bind (Zamf a0) (fun x1 h2 => ?_)
  replace h2 : (x1 = true → a0.X ≤ 2) ∧ (x1 = true → ∀ n, n ∈ A5.list a0.Color → n ≤ 9) := h2
  have eh2_0 := h2.1
  have eh2_1 := h2.2
  refine Tot.not (fun h3 => ?_) (fun h3 => ?_)
  ·exact Tot.inr (show (SzT ([] : List UInt8)) from (SzT.nil))
  ·have h3_0 := eh2_0 h3
   have h3_1 := eh2_1 h3
   exact Tot.inl ⟨(by first | omega | (simp only [List.length_append, List.length_cons, List.length_nil]; omega) | trivial | decide | assumption | exact shl_ne' (by omega) (by omega) | (simp; done) | (simp; omega)), (by first | omega | (simp only [List.length_append, List.length_cons, List.length_nil]; omega) | trivial | decide | assumption | exact shl_ne' (by omega) (by omega) | (simp; done) | (simp; omega)), (by first | omega | (simp only [List.length_append, List.length_cons, List.length_nil]; omega) | trivial | decide | assumption | exact shl_ne' (by omega) (by omega) | (simp; done) | (simp; omega)), (by first | omega | (simp only [List.length_append, List.length_cons, List.length_nil]; omega) | trivial | decide | assumption | exact shl_ne' (by omega) (by omega) | (simp; done) | (simp; omega)), (by first | omega | (simp only [List.length_append, List.length_cons, List.length_nil]; omega) | trivial | decide | assumption | exact shl_ne' (by omega) (by omega) | (simp; done) | (simp; omega))⟩ (by unfold Zhh lt6; dsimp only; omega)
 ·intro s hs
  cases s with
  | L0 E0 v3 v4 => exact Za3m E0 v3 v4 hs
  | L1 E0 v3 v5 => exact Za3n E0 v3 v5 hs
  | L2 E0 v3 v5 v6 => exact Za3o E0 v3 v5 v6 hs
abbrev Zayw : Zjo → Prop := fun _ => True
abbrev Za3p : Zjo → M6 := fun _ => (0, 0, 0, 0, 0, 0)
theorem Zayx (a0 : (A6 Int)) : Tot (Z2s a0) (fun r => (SzT r)) := by
 unfold Z2s
 refine Tot.fin (Inv := Zayw) (μ := Za3p) (m := (1000000, 0, 0, 0, 0, 0)) ?_ ?_
 ·unfold Z5g
  refine Tot.bind (Zbgp a0) (fun x1 h2 => ?_)
  refine Tot.bind (Zbgq x1) (fun x3 h4 => ?_)
  replace h4 : (SzT x3) := h4
  exact Tot.inr (show (SzT x3) from h4)
 ·intro s
  cases s
abbrev Za60 : Zlr → Prop := fun _ => True
abbrev Zbbs : Zlr → M6 := fun _ => (0, 0, 0, 0, 0, 0)
theorem Za61 (a0 : Int) (a1 : Zi) (oa1 : Zcv a1) : Tot (Zaac a0 a1) (fun r => True) := by
 unfold Zaac
 refine Tot.fin (Inv := Za60) (μ := Zbbs) (m := (1000000, 0, 0, 0, 0, 0)) ?_ ?_
 ·unfold Zabp
  refine Tot.ieq (fun h1 => ?_) (fun h1 => ?_)
  ·refine Tot.bind (Zmb a1 oa1) (fun x2 h3 => ?_)
   replace h3 : (x2 = true → 0 ≤ a1.Zone ∧ a1.Zone ≤ 5 ∧ 0 ≤ a1.Who ∧ a1.Who ≤ 2 ∧ 0 ≤ a1.Self ∧ a1.Self ≤ 2 ∧ 0 ≤ a1.Tap ∧ a1.Tap ≤ 2 ∧ 0 ≤ a1.Power.Kind ∧ a1.Power.Kind ≤ 3 ∧ 0 ≤ a1.Tough.Kind ∧ a1.Tough.Kind ≤ 3 ∧ 0 ≤ a1.Value.Kind ∧ a1.Value.Kind ≤ 3) := h3
   have eh3_0 := h3
   refine Tot.bif (fun h4 => ?_) (fun h4 => ?_)
   ·have h4_0 := eh3_0 h4
    exact Tot.inr trivial
   ·exact Tot.inr trivial
  ·refine Tot.bind (Zmb a1 oa1) (fun x5 h6 => ?_)
   replace h6 : (x5 = true → 0 ≤ a1.Zone ∧ a1.Zone ≤ 5 ∧ 0 ≤ a1.Who ∧ a1.Who ≤ 2 ∧ 0 ≤ a1.Self ∧ a1.Self ≤ 2 ∧ 0 ≤ a1.Tap ∧ a1.Tap ≤ 2 ∧ 0 ≤ a1.Power.Kind ∧ a1.Power.Kind ≤ 3 ∧ 0 ≤ a1.Tough.Kind ∧ a1.Tough.Kind ≤ 3 ∧ 0 ≤ a1.Value.Kind ∧ a1.Value.Kind ≤ 3) := h6
   have eh6_0 := h6
   refine Tot.bif (fun h7 => ?_) (fun h7 => ?_)
   ·have h7_0 := eh6_0 h7
    exact Tot.inr trivial
   ·exact Tot.inr trivial
 ·intro s
  cases s
abbrev Zgi : Zfi → Prop
 | .L0 E0 v5 => (Za7 E0)
 | .L1 E0 v5 v6 => (Za7 E0)
 | .L2 E0 v5 v6 v7 => (Za7 E0)
 | .L3 E0 v5 v6 v7 v8 => (Za7 E0)
 | .L4 E0 v5 v6 v7 v8 v9 => (Za7 E0)
 | .L5 E0 v5 v6 v7 v8 v9 v10 => (Za7 E0)
 | .L6 E0 v5 v6 v7 v8 v9 v10 v11 => (Za7 E0)
 | .L7 v5 v6 v7 v8 v9 v10 v11 v12 => True
abbrev Zho : Zfi → M6
 | .L0 E0 v5 => (0, 0, 0, 0, 0, 0)
 | .L1 E0 v5 v6 => (0, 0, 0, 0, 0, 0)
 | .L2 E0 v5 v6 v7 => (0, 0, 0, 0, 0, 0)
 | .L3 E0 v5 v6 v7 v8 => (0, 0, 0, 0, 0, 0)
 | .L4 E0 v5 v6 v7 v8 v9 => (0, 0, 0, 0, 0, 0)
 | .L5 E0 v5 v6 v7 v8 v9 v10 => (0, 0, 0, 0, 0, 0)
 | .L6 E0 v5 v6 v7 v8 v9 v10 v11 => (0, 0, 0, 0, 0, 0)
 | .L7 v5 v6 v7 v8 v9 v10 v11 v12 => (0, 0, 0, 0, 0, 0)
theorem Z9j (v5 : Bool) (v6 : Bool) (v7 : Bool) (v8 : Bool) (v9 : Bool) (v10 : Bool) (v11 : Bool) (v12 : Bool) (h : Zgi (.L7 v5 v6 v7 v8 v9 v10 v11 v12)) : Tot (Z1p v5 v6 v7 v8 v9 v10 v11 v12) (Nx Zgi Zho (Zho (.L7 v5 v6 v7 v8 v9 v10 v11 v12)) (fun r => True)) := by
 unfold Z1p
 refine Tot.bif (fun h1 => ?_) (fun h1 => ?_)
 ·refine Tot.bif (fun h2 => ?_) (fun h2 => ?_)
  ·refine Tot.bif (fun h3 => ?_) (fun h3 => ?_)
   ·refine Tot.bif (fun h4 => ?_) (fun h4 => ?_)
    ·refine Tot.bif (fun h5 => ?_) (fun h5 => ?_)
     ·refine Tot.bif (fun h6 => ?_) (fun h6 => ?_)
      ·refine Tot.bif (fun h7 => ?_) (fun h7 => ?_)
       ·exact Tot.inr trivial
       ·exact Tot.inr trivial
      ·exact Tot.inr trivial
     ·exact Tot.inr trivial
    ·exact Tot.inr trivial
   ·exact Tot.inr trivial
  ·exact Tot.inr trivial
 ·exact Tot.inr trivial
theorem Z0g (E0 : Zk) (v5 : Bool) (v6 : Bool) (v7 : Bool) (v8 : Bool) (v9 : Bool) (v10 : Bool) (v11 : Bool) (h : Zgi (.L6 E0 v5 v6 v7 v8 v9 v10 v11)) : Tot (Zwo E0 v5 v6 v7 v8 v9 v10 v11) (Nx Zgi Zho (Zho (.L6 E0 v5 v6 v7 v8 v9 v10 v11)) (fun r => True)) := by
 have ob30000000 := h
 unfold Zwo
 refine Tot.bind (Zny E0.Op 102) (fun x1 h2 => ?_)
 refine Tot.bif (fun h3 => ?_) (fun h3 => ?_)
 ·refine Tot.bind (Za61 E0.Op E0.Filter ob30000000.2.2.2.1) (fun x4 h5 => ?_)
  exact Tot.join (Z9j v5 v6 v7 v8 v9 v10 v11 x4 trivial) (by unfold le6 lt6; dsimp only; omega)
 ·exact Tot.join (Z9j v5 v6 v7 v8 v9 v10 v11 (eqTs (Zx E0.Filter) (Zx (⟨0, 0, 0, 0, 0, 0, 0, ([] : List UInt8), 0, 0, (⟨0, 0⟩ : Ze), (⟨0, 0⟩ : Ze), (⟨0, 0⟩ : Ze)⟩ : Zi))) trivial) (by unfold le6 lt6; dsimp only; omega)
theorem Z9k (E0 : Zk) (v5 : Bool) (v6 : Bool) (v7 : Bool) (v8 : Bool) (v9 : Bool) (v10 : Bool) (h : Zgi (.L5 E0 v5 v6 v7 v8 v9 v10)) : Tot (Z1q E0 v5 v6 v7 v8 v9 v10) (Nx Zgi Zho (Zho (.L5 E0 v5 v6 v7 v8 v9 v10)) (fun r => True)) := by
 have ob30000000 := h
 unfold Z1q
 refine Tot.bind (Zny E0.Op 112) (fun x1 h2 => ?_)
 refine Tot.bif (fun h3 => ?_) (fun h3 => ?_)
 ·refine Tot.not (fun h4 => ?_) (fun h4 => ?_)
  ·refine Tot.bind (Zayx E0.Pool) (fun x5 h6 => ?_)
   replace h6 : (SzT x5) := h6
   exact Tot.join (Z0g E0 v5 v6 v7 v8 v9 v10 (!(x5 == ([] : List UInt8))) (show (Za7 E0) from ob30000000)) (by unfold le6 lt6; dsimp only; omega)
  ·exact Tot.join (Z0g E0 v5 v6 v7 v8 v9 v10 false ob30000000) (by unfold le6 lt6; dsimp only; omega)
 ·exact Tot.join (Z0g E0 v5 v6 v7 v8 v9 v10 (eqTs ((cA6 (cI .i64)) E0.Pool) ((cA6 (cI .i64)) (⟨0, 0, 0, 0, 0, 0⟩ : (A6 Int)))) (show (Za7 E0) from ob30000000)) (by unfold le6 lt6; dsimp only; omega)
theorem Z9l (E0 : Zk) (v5 : Bool) (v6 : Bool) (v7 : Bool) (v8 : Bool) (v9 : Bool) (h : Zgi (.L4 E0 v5 v6 v7 v8 v9)) : Tot (Z1r E0 v5 v6 v7 v8 v9) (Nx Zgi Zho (Zho (.L4 E0 v5 v6 v7 v8 v9)) (fun r => True)) := by
 have ob30000000 := h
 unfold Z1r
 have q1 := ob30000000.2.2.2.2.1
 refine Tot.bind (Zny E0.Op 109) (fun x2 h3 => ?_)
 refine Tot.bif (fun h4 => ?_) (fun h4 => ?_)
 ·refine Tot.bind (Zbgo E0.Mods ob30000000.2.2.2.2) (fun x5 h6 => ?_)
  exact Tot.join (Z9k E0 v5 v6 v7 v8 v9 x5 ob30000000) (by unfold le6 lt6; dsimp only; omega)
 ·exact Tot.join (Z9k E0 v5 v6 v7 v8 v9 ((E0.Mods.length : Int) == 0) (show (Za7 E0) from ob30000000)) (by unfold le6 lt6; dsimp only; omega)
theorem Z9m (E0 : Zk) (v5 : Bool) (v6 : Bool) (v7 : Bool) (v8 : Bool) (h : Zgi (.L3 E0 v5 v6 v7 v8)) : Tot (Z1s E0 v5 v6 v7 v8) (Nx Zgi Zho (Zho (.L3 E0 v5 v6 v7 v8)) (fun r => True)) := by
 have ob30000000 := h
 unfold Z1s
 refine Tot.bind (Zny E0.Op 97) (fun x1 h2 => ?_)
 refine Tot.bif (fun h3 => ?_) (fun h3 => ?_)
 ·refine Tot.bind (Zbmh E0.Amount ob30000000.2.1) (fun x4 h5 => ?_)
  exact Tot.join (Z9l E0 v5 v6 v7 v8 x4 ob30000000) (by unfold le6 lt6; dsimp only; omega)
 ·exact Tot.join (Z9l E0 v5 v6 v7 v8 (eqTs (Zb2 E0.Amount) (Zb2 (⟨0, 0, 0, (⟨0, 0, 0, 0, 0, 0, 0, ([] : List UInt8), 0, 0, (⟨0, 0⟩ : Ze), (⟨0, 0⟩ : Ze), (⟨0, 0⟩ : Ze)⟩ : Zi)⟩ : Zd3))) (show (Za7 E0) from ob30000000)) (by unfold le6 lt6; dsimp only; omega)
theorem Z0h (E0 : Zk) (v5 : Bool) (v6 : Bool) (v7 : Bool) (h : Zgi (.L2 E0 v5 v6 v7)) : Tot (Zwp E0 v5 v6 v7) (Nx Zgi Zho (Zho (.L2 E0 v5 v6 v7)) (fun r => True)) := by
 have ob30000000 := h
 unfold Zwp
 refine Tot.bind (Zny E0.Op 99) (fun x1 h2 => ?_)
 refine Tot.bif (fun h3 => ?_) (fun h3 => ?_)
 ·refine Tot.bind (Zame E0.Card (SzS.t ob30000000.2.2.1)) (fun x4 h5 => ?_)
  exact Tot.join (Z9m E0 v5 v6 v7 x4 ob30000000) (by unfold le6 lt6; dsimp only; omega)
 ·exact Tot.join (Z9m E0 v5 v6 v7 (E0.Card == ([] : List UInt8)) (show (Za7 E0) from ob30000000)) (by unfold le6 lt6; dsimp only; omega)
theorem Zuz (E0 : Zk) (v5 : Bool) (v6 : Bool) (h : Zgi (.L1 E0 v5 v6)) : Tot (Zs2 E0 v5 v6) (Nx Zgi Zho (Zho (.L1 E0 v5 v6)) (fun r => True)) := by
 have ob30000000 := h
 unfold Zs2
 refine Tot.ieq (fun h1 => ?_) (fun h1 => ?_)
 ·exact Tot.join (Z0h E0 v5 v6 true ob30000000) (by unfold le6 lt6; dsimp only; omega)
 ·refine Tot.bind (Zny E0.Op 107) (fun x2 h3 => ?_)
  refine Tot.bif (fun h4 => ?_) (fun h4 => ?_)
  ·refine Tot.bind (Zar6 E0.Counter) (fun x5 h6 => ?_)
   replace h6 : (SzN x5) := h6
   exact Tot.join (Z0h E0 v5 v6 (!(x5 == ([] : List UInt8))) (show (Za7 E0) from ob30000000)) (by unfold le6 lt6; dsimp only; omega)
  ·exact Tot.join (Z0h E0 v5 v6 false ob30000000) (by unfold le6 lt6; dsimp only; omega)
theorem Z9n (E0 : Zk) (v5 : Bool) (h : Zgi (.L0 E0 v5)) : Tot (Z1t E0 v5) (Nx Zgi Zho (Zho (.L0 E0 v5)) (fun r => True)) := by
 have ob30000000 := h
 unfold Z1t
 refine Tot.ieq (fun h1 => ?_) (fun h1 => ?_)
 ·exact Tot.join (Zuz E0 v5 true ob30000000) (by unfold le6 lt6; dsimp only; omega)
 ·refine Tot.bind (Zny E0.Op 122) (fun x2 h3 => ?_)
  refine Tot.bif (fun h4 => ?_) (fun h4 => ?_)
  ·refine Tot.dif (fun h5 => ?_) (fun h5 => ?_)
   ·exact Tot.join (Zuz E0 v5 (decide (E0.Zone ≤ 4)) (show (Za7 E0) from ob30000000)) (by unfold le6 lt6; dsimp only; omega)
   ·exact Tot.join (Zuz E0 v5 false ob30000000) (by unfold le6 lt6; dsimp only; omega)
  ·exact Tot.join (Zuz E0 v5 false ob30000000) (by unfold le6 lt6; dsimp only; omega)
theorem Zbmi (a0 : Zk) (a1 : Int) (oa0 : Za7 a0) : Tot (Za0d a0 a1) (fun r => True) := by
 unfold Za0d
 refine Tot.fin (Inv := Zgi) (μ := Zho) (m := (1000000, 0, 0, 0, 0, 0)) ?_ ?_
 ·unfold Zawq
  refine Tot.bind (Zbgk a0.Op) (fun x1 h2 => ?_)
  replace h2 : (SzN x1) := h2
  refine Tot.bif (fun h3 => ?_) (fun h3 => ?_)
  ·exact Tot.inr trivial
  ·refine Tot.bind (Zny a0.Op 114) (fun x4 h5 => ?_)
   refine Tot.bif (fun h6 => ?_) (fun h6 => ?_)
   ·refine Tot.bind (Zbmf a0.Ref a1 oa0.1) (fun x7 h8 => ?_)
    exact Tot.join (Z9n a0 x7 oa0) (by unfold le6 lt6; dsimp only; omega)
   ·exact Tot.join (Z9n a0 (eqTs (Zfk a0.Ref) (Zfk (⟨0, 0, (⟨0, 0, 0, 0, 0, 0, 0, ([] : List UInt8), 0, 0, (⟨0, 0⟩ : Ze), (⟨0, 0⟩ : Ze), (⟨0, 0⟩ : Ze)⟩ : Zi)⟩ : Zgp))) (show (Za7 a0) from oa0)) (by unfold le6 lt6; dsimp only; omega)
 ·intro s hs
  cases s with
  | L0 E0 v5 => exact Z9n E0 v5 hs
  | L1 E0 v5 v6 => exact Zuz E0 v5 v6 hs
  | L2 E0 v5 v6 v7 => exact Z0h E0 v5 v6 v7 hs
  | L3 E0 v5 v6 v7 v8 => exact Z9m E0 v5 v6 v7 v8 hs
  | L4 E0 v5 v6 v7 v8 v9 => exact Z9l E0 v5 v6 v7 v8 v9 hs
  | L5 E0 v5 v6 v7 v8 v9 v10 => exact Z9k E0 v5 v6 v7 v8 v9 v10 hs
  | L6 E0 v5 v6 v7 v8 v9 v10 v11 => exact Z0g E0 v5 v6 v7 v8 v9 v10 v11 hs
  | L7 v5 v6 v7 v8 v9 v10 v11 v12 => exact Z9j v5 v6 v7 v8 v9 v10 v11 v12 hs
abbrev Z4l : Zhx → Prop
 | .L0 v0 v1 v5 => ((SzL 560 Za7) v0) ∧ (0 ≤ v5)
abbrev Zsk : Zhx → M6
 | .L0 v0 v1 v5 => (1, ((v0.length : Int) - v5).toNat, 1000000, 0, 0, 0)
theorem Zar7 (v0 : (List Zk)) (v1 : Int) (v5 : Int) (h : Z4l (.L0 v0 v1 v5)) : Tot (Zx7 v0 v1 v5) (Nx Z4l Zsk (Zsk (.L0 v0 v1 v5)) (fun r => True)) := by
 obtain ⟨ov0, cv5⟩ := h
 have lb_v0 := ov0.1
 unfold Zx7
 have q1 := ov0.1
 refine Tot.dif (fun h2 => ?_) (fun h2 => ?_)
 ·refine Tot.bind (Tot.idx (by omega) (by omega)) (fun x3 h4 => ?_)
  have oh4 : Za7 x3 := ov0.2 x3 h4.1
  refine Tot.bind (Zbmi x3 v1 oh4) (fun x5 h6 => ?_)
  refine Tot.not (fun h7 => ?_) (fun h7 => ?_)
  ·exact Tot.inr trivial
  ·have q8 := Za3 (v5 + 1)
   have q9 := Za4 (v5 + 1)
   exact Tot.inl ⟨ov0, (by omega)⟩ (by unfold Zsk lt6; dsimp only; omega)
 ·refine Tot.dif (fun h10 => ?_) (fun h10 => ?_)
  ·exact Tot.inr trivial
  ·exact Tot.inr trivial
theorem Za3q (a0 : (List Zk)) (a1 : Int) (oa0 : (SzL 560 Za7) a0) : Tot (Z6x a0 a1) (fun r => True) := by
 unfold Z6x
 refine Tot.fin (Inv := Z4l) (μ := Zsk) (m := (1000000, 0, 0, 0, 0, 0)) ?_ ?_
 ·have lb_a0 := oa0.1
  unfold Z8b
  exact Tot.inl ⟨oa0, (by omega)⟩ (by unfold Zsk lt6; dsimp only; omega)
 ·intro s hs
  cases s with
  | L0 v0 v1 v5 => exact Zar7 v0 v1 v5 hs
abbrev Zmd : Zhr → Prop
 | .L0 E0 v3 => (Zdd E0)
 | .L1 E0 v3 => (Zdd E0)
 | .L2 E0 v3 => (Zdd E0)
 | .L3 E0 v3 => (Zdd E0)
 | .L4 E0 v3 => (Zdd E0)
abbrev Znz : Zhr → M6
 | .L0 E0 v3 => (0, 0, 0, 0, 0, 0)
 | .L1 E0 v3 => (0, 0, 0, 0, 0, 0)
 | .L2 E0 v3 => (0, 0, 0, 0, 0, 0)
 | .L3 E0 v3 => (0, 0, 0, 0, 0, 0)
 | .L4 E0 v3 => (0, 0, 0, 0, 0, 0)
theorem Z9o (E0 : Zs) (v3 : Bool) (h : Zmd (.L4 E0 v3)) : Tot (Z1u E0 v3) (Nx Zmd Znz (Znz (.L4 E0 v3)) (fun r => True)) := by
 have ob30000000 := h
 unfold Z1u
 refine Tot.bif (fun h1 => ?_) (fun h1 => ?_)
 ·refine Tot.bind (Zbbr E0.Specs ob30000000.2.2.2.1) (fun x2 h3 => ?_)
  refine Tot.bif (fun h4 => ?_) (fun h4 => ?_)
  ·have q5 := ob30000000.2.2.2.1.1
   refine Tot.bind (Za3q E0.Effects (E0.Specs.length : Int) ob30000000.2.2.2.2.1) (fun x6 h7 => ?_)
   exact Tot.inr trivial
  ·exact Tot.inr trivial
 ·have q8 := ob30000000.2.2.2.1.1
  refine Tot.ieq (fun h9 => ?_) (fun h9 => ?_)
  ·have q10 := ob30000000.2.2.2.2.1.1
   exact Tot.inr trivial
  ·exact Tot.inr trivial
theorem Z9p (E0 : Zs) (v3 : Bool) (h : Zmd (.L3 E0 v3)) : Tot (Z1v E0 v3) (Nx Zmd Znz (Znz (.L3 E0 v3)) (fun r => True)) := by
 have ob30000000 := h
 unfold Z1v
 refine Tot.ieq (fun h1 => ?_) (fun h1 => ?_)
 ·refine Tot.bind (Zbme E0.Replace ob30000000.2.2.2.2.2) (fun x2 h3 => ?_)
  refine Tot.not (fun h4 => ?_) (fun h4 => ?_)
  ·exact Tot.inr trivial
  ·exact Tot.join (Z9o E0 v3 ob30000000) (by unfold le6 lt6; dsimp only; omega)
 ·refine Tot.not (fun h5 => ?_) (fun h5 => ?_)
  ·exact Tot.inr trivial
  ·exact Tot.join (Z9o E0 v3 ob30000000) (by unfold le6 lt6; dsimp only; omega)
theorem Z9q (E0 : Zs) (v3 : Bool) (h : Zmd (.L2 E0 v3)) : Tot (Z1w E0 v3) (Nx Zmd Znz (Znz (.L2 E0 v3)) (fun r => True)) := by
 have ob30000000 := h
 unfold Z1w
 refine Tot.ieq (fun h1 => ?_) (fun h1 => ?_)
 ·refine Tot.bind (Zbmd E0.Trigger ob30000000.2.2.1) (fun x2 h3 => ?_)
  refine Tot.not (fun h4 => ?_) (fun h4 => ?_)
  ·exact Tot.inr trivial
  ·exact Tot.join (Z9p E0 v3 ob30000000) (by unfold le6 lt6; dsimp only; omega)
 ·refine Tot.not (fun h5 => ?_) (fun h5 => ?_)
  ·exact Tot.inr trivial
  ·refine Tot.bif (fun h6 => ?_) (fun h6 => ?_)
   ·exact Tot.inr trivial
   ·exact Tot.join (Z9p E0 v3 ob30000000) (by unfold le6 lt6; dsimp only; omega)
theorem Z9r (E0 : Zs) (v3 : Bool) (h : Zmd (.L1 E0 v3)) : Tot (Z1x E0 v3) (Nx Zmd Znz (Znz (.L1 E0 v3)) (fun r => True)) := by
 have ob30000000 := h
 unfold Z1x
 refine Tot.ieq (fun h1 => ?_) (fun h1 => ?_)
 ·refine Tot.bind (Zbbk E0.Price) (fun x2 h3 => ?_)
  refine Tot.not (fun h4 => ?_) (fun h4 => ?_)
  ·exact Tot.inr trivial
  ·exact Tot.join (Z9q E0 v3 ob30000000) (by unfold le6 lt6; dsimp only; omega)
 ·refine Tot.not (fun h5 => ?_) (fun h5 => ?_)
  ·exact Tot.inr trivial
  ·refine Tot.bif (fun h6 => ?_) (fun h6 => ?_)
   ·exact Tot.inr trivial
   ·exact Tot.join (Z9q E0 v3 ob30000000) (by unfold le6 lt6; dsimp only; omega)
theorem Z0i (E0 : Zs) (v3 : Bool) (h : Zmd (.L0 E0 v3)) : Tot (Zwq E0 v3) (Nx Zmd Znz (Znz (.L0 E0 v3)) (fun r => True)) := by
 have ob30000000 := h
 unfold Zwq
 refine Tot.ieq (fun h1 => ?_) (fun h1 => ?_)
 ·refine Tot.bind (Zmb E0.Filter ob30000000.1) (fun x2 h3 => ?_)
  replace h3 : (x2 = true → 0 ≤ E0.Filter.Zone ∧ E0.Filter.Zone ≤ 5 ∧ 0 ≤ E0.Filter.Who ∧ E0.Filter.Who ≤ 2 ∧ 0 ≤ E0.Filter.Self ∧ E0.Filter.Self ≤ 2 ∧ 0 ≤ E0.Filter.Tap ∧ E0.Filter.Tap ≤ 2 ∧ 0 ≤ E0.Filter.Power.Kind ∧ E0.Filter.Power.Kind ≤ 3 ∧ 0 ≤ E0.Filter.Tough.Kind ∧ E0.Filter.Tough.Kind ≤ 3 ∧ 0 ≤ E0.Filter.Value.Kind ∧ E0.Filter.Value.Kind ≤ 3) := h3
  have eh3_0 := h3
  refine Tot.not (fun h4 => ?_) (fun h4 => ?_)
  ·exact Tot.inr trivial
  ·have h4_0 := eh3_0 h4
   refine Tot.ine (fun h5 => ?_) (fun h5 => ?_)
   ·exact Tot.inr trivial
   ·refine Tot.bind (Z07 E0.Mods ob30000000.2.1) (fun x6 h7 => ?_)
    replace h7 : (x6.length ≤ 4611686018427387904) := h7
    have eh7_0 := h7
    try simp only [List.length_nil, List.length_cons, Nat.zero_add] at eh7_0
    refine Tot.bif (fun h8 => ?_) (fun h8 => ?_)
    ·exact Tot.inr trivial
    ·exact Tot.join (Z9r E0 v3 ob30000000) (by unfold le6 lt6; dsimp only; omega)
 ·refine Tot.not (fun h9 => ?_) (fun h9 => ?_)
  ·exact Tot.inr trivial
  ·have q10 := ob30000000.2.1.1
   refine Tot.dif (fun h11 => ?_) (fun h11 => ?_)
   ·exact Tot.inr trivial
   ·exact Tot.join (Z9r E0 v3 ob30000000) (by unfold le6 lt6; dsimp only; omega)
theorem Zaav (a0 : Zs) (oa0 : Zdd a0) : Tot (Zabq a0) (fun r => True) := by
 unfold Zabq
 refine Tot.fin (Inv := Zmd) (μ := Znz) (m := (1000000, 0, 0, 0, 0, 0)) ?_ ?_
 ·unfold Zaws
  refine Tot.dif (fun h1 => ?_) (fun h1 => ?_)
  ·exact Tot.inr trivial
  ·refine Tot.dif (fun h2 => ?_) (fun h2 => ?_)
   ·exact Tot.inr trivial
   ·refine Tot.ieq (fun h3 => ?_) (fun h3 => ?_)
    ·exact Tot.join (Z0i a0 true oa0) (by unfold le6 lt6; dsimp only; omega)
    ·refine Tot.ieq (fun h4 => ?_) (fun h4 => ?_)
     ·exact Tot.join (Z0i a0 true oa0) (by unfold le6 lt6; dsimp only; omega)
     ·exact Tot.join (Z0i a0 (a0.Kind == 4) oa0) (by unfold le6 lt6; dsimp only; omega)
 ·intro s hs
  cases s with
  | L0 E0 v3 => exact Z0i E0 v3 hs
  | L1 E0 v3 => exact Z9r E0 v3 hs
  | L2 E0 v3 => exact Z9q E0 v3 hs
  | L3 E0 v3 => exact Z9p E0 v3 hs
  | L4 E0 v3 => exact Z9o E0 v3 hs
abbrev Zbgr : Zot → Prop := fun _ => True
abbrev Zbkc : Zot → M6 := fun _ => (0, 0, 0, 0, 0, 0)
theorem Zbgs (a0 : Zw) (oa0 : Zb9 a0) : Tot (Zakp a0) (fun r => True) := by
 unfold Zakp
 refine Tot.fin (Inv := Zbgr) (μ := Zbkc) (m := (1000000, 0, 0, 0, 0, 0)) ?_ ?_
 ·unfold Zako
  refine Tot.ieq (fun h1 => ?_) (fun h1 => ?_)
  ·exact Tot.inr trivial
  ·exact Tot.inr trivial
 ·intro s
  cases s
abbrev Z4m : Zmu → Prop
 | .L0 E0 => (Zb9 E0)
 | .L1 E0 v3 v4 => (Zb9 E0) ∧ (0 ≤ v4)
abbrev Zs8 : Zmu → M6
 | .L0 E0 => (2, 0, 0, 0, 0, 0)
 | .L1 E0 v3 v4 => (1, ((E0.Abilities.length : Int) - v4).toNat, 1000000, 0, 0, 0)
theorem Z9s (E0 : Zw) (h : Z4m (.L0 E0)) : Tot (Z1y E0) (Nx Z4m Zs8 (Zs8 (.L0 E0)) (fun r => True)) := by
 have ob30000000 := h
 unfold Z1y
 exact Tot.inl ⟨ob30000000, (by omega)⟩ (by unfold Zs8 lt6; dsimp only; omega)
theorem Zbbt (E0 : Zw) (v3 : Int) (v4 : Int) (h : Z4m (.L1 E0 v3 v4)) : Tot (Zae4 E0 v3 v4) (Nx Z4m Zs8 (Zs8 (.L1 E0 v3 v4)) (fun r => True)) := by
 obtain ⟨ob30000000, cv4⟩ := h
 unfold Zae4
 have q1 := ob30000000.2.2.1
 refine Tot.dif (fun h2 => ?_) (fun h2 => ?_)
 ·refine Tot.bind (Tot.idx (by omega) (by omega)) (fun x3 h4 => ?_)
  have oh4 : Zdd x3 := ob30000000.2.2.2 x3 h4.1
  refine Tot.bind (Zaav x3 oh4) (fun x5 h6 => ?_)
  refine Tot.not (fun h7 => ?_) (fun h7 => ?_)
  ·exact Tot.inr trivial
  ·refine Tot.ieq (fun h8 => ?_) (fun h8 => ?_)
   ·have q9 := Za3 (v3 + 1)
    have q10 := Za4 (v3 + 1)
    have q11 := Za3 (v4 + 1)
    have q12 := Za4 (v4 + 1)
    exact Tot.inl ⟨ob30000000, (by omega)⟩ (by unfold Zs8 lt6; dsimp only; omega)
   ·have q13 := Za3 (v4 + 1)
    have q14 := Za4 (v4 + 1)
    exact Tot.inl ⟨ob30000000, (by omega)⟩ (by unfold Zs8 lt6; dsimp only; omega)
 ·refine Tot.bind (Zbgs E0 ob30000000) (fun x15 h16 => ?_)
  refine Tot.bif (fun h17 => ?_) (fun h17 => ?_)
  ·refine Tot.not (fun h18 => ?_) (fun h18 => ?_)
   ·refine Tot.ieq (fun h19 => ?_) (fun h19 => ?_)
    ·refine Tot.ieq (fun h20 => ?_) (fun h20 => ?_)
     ·exact Tot.inr trivial
     ·exact Tot.inr trivial
    ·exact Tot.inr trivial
   ·exact Tot.inr trivial
  ·refine Tot.ieq (fun h21 => ?_) (fun h21 => ?_)
   ·refine Tot.not (fun h22 => ?_) (fun h22 => ?_)
    ·refine Tot.ieq (fun h23 => ?_) (fun h23 => ?_)
     ·exact Tot.inr trivial
     ·exact Tot.inr trivial
    ·exact Tot.inr trivial
   ·exact Tot.inr trivial
theorem Zbmj (a0 : Zw) (oa0 : Zb9 a0) : Tot (Za0e a0) (fun r => True) := by
 unfold Za0e
 refine Tot.fin (Inv := Z4m) (μ := Zs8) (m := (1000000, 0, 0, 0, 0, 0)) ?_ ?_
 ·unfold Zawt
  refine Tot.bind (Zame a0.Name (SzS.t oa0.1)) (fun x1 h2 => ?_)
  refine Tot.not (fun h3 => ?_) (fun h3 => ?_)
  ·exact Tot.inr trivial
  ·refine Tot.bind (Zamf a0.Cost) (fun x4 h5 => ?_)
   replace h5 : (x4 = true → a0.Cost.X ≤ 2) ∧ (x4 = true → ∀ n, n ∈ A5.list a0.Cost.Color → n ≤ 9) := h5
   have eh5_0 := h5.1
   have eh5_1 := h5.2
   refine Tot.not (fun h6 => ?_) (fun h6 => ?_)
   ·exact Tot.inr trivial
   ·have h6_0 := eh5_0 h6
    have h6_1 := eh5_1 h6
    refine Tot.bind (Zbl9 a0.Line oa0.2.1) (fun x7 h8 => ?_)
    refine Tot.not (fun h9 => ?_) (fun h9 => ?_)
    ·exact Tot.inr trivial
    ·refine Tot.bind (Za24 a0.Keys) (fun x10 h11 => ?_)
     refine Tot.not (fun h12 => ?_) (fun h12 => ?_)
     ·exact Tot.inr trivial
     ·refine Tot.dif (fun h13 => ?_) (fun h13 => ?_)
      ·exact Tot.inr trivial
      ·refine Tot.dif (fun h14 => ?_) (fun h14 => ?_)
       ·exact Tot.inr trivial
       ·refine Tot.dif (fun h15 => ?_) (fun h15 => ?_)
        ·exact Tot.inr trivial
        ·refine Tot.dif (fun h16 => ?_) (fun h16 => ?_)
         ·exact Tot.inr trivial
         ·refine Tot.dif (fun h17 => ?_) (fun h17 => ?_)
          ·exact Tot.inr trivial
          ·refine Tot.dif (fun h18 => ?_) (fun h18 => ?_)
           ·exact Tot.inr trivial
           ·refine Tot.bind (Zayh a0 oa0) (fun x19 h20 => ?_)
            refine Tot.not (fun h21 => ?_) (fun h21 => ?_)
            ·refine Tot.ine (fun h22 => ?_) (fun h22 => ?_)
             ·exact Tot.inr trivial
             ·refine Tot.ine (fun h23 => ?_) (fun h23 => ?_)
              ·exact Tot.inr trivial
              ·have q24 := oa0.2.2.1
               refine Tot.dif (fun h25 => ?_) (fun h25 => ?_)
               ·exact Tot.inr trivial
               ·exact Tot.join (Z9s a0 oa0) (by unfold le6 lt6; dsimp only; omega)
            ·have q26 := oa0.2.2.1
             refine Tot.dif (fun h27 => ?_) (fun h27 => ?_)
             ·exact Tot.inr trivial
             ·exact Tot.join (Z9s a0 oa0) (by unfold le6 lt6; dsimp only; omega)
 ·intro s hs
  cases s with
  | L0 E0 => exact Z9s E0 hs
  | L1 E0 v3 v4 => exact Zbbt E0 v3 v4 hs
abbrev Zaeg : Zls → Prop
 | .L0 v0 v1 v5 => ((SzL 176 Zb9) v0) ∧ (SzT v1) ∧ (0 ≤ v5)
abbrev Zzl : Zls → M6
 | .L0 v0 v1 v5 => (1, ((v0.length : Int) - v5).toNat, 1000000, 0, 0, 0)
theorem Za3r (v0 : (List Zw)) (v1 : (List UInt8)) (v5 : Int) (h : Zaeg (.L0 v0 v1 v5)) : Tot (Z6y v0 v1 v5) (Nx Zaeg Zzl (Zzl (.L0 v0 v1 v5)) (fun r => True)) := by
 obtain ⟨ov0, ov1, cv5⟩ := h
 have lb_v0 := ov0.1
 have lb_v1 : v1.length ≤ 562949953421312 := ov1
 unfold Z6y
 have q1 := ov0.1
 refine Tot.dif (fun h2 => ?_) (fun h2 => ?_)
 ·refine Tot.bind (Tot.idx (by omega) (by omega)) (fun x3 h4 => ?_)
  have oh4 : Zb9 x3 := ov0.2 x3 h4.1
  refine Tot.bif (fun h5 => ?_) (fun h5 => ?_)
  ·exact Tot.inr trivial
  ·have q6 := Za3 (v5 + 1)
   have q7 := Za4 (v5 + 1)
   exact Tot.inl ⟨ov0, ov1, (by omega)⟩ (by unfold Zzl lt6; dsimp only; omega)
 ·exact Tot.inr trivial
theorem Zbgt (a0 : (List Zw)) (a1 : (List UInt8)) (oa0 : (SzL 176 Zb9) a0) (oa1 : SzT a1) : Tot (Zakr a0 a1) (fun r => True) := by
 unfold Zakr
 refine Tot.fin (Inv := Zaeg) (μ := Zzl) (m := (1000000, 0, 0, 0, 0, 0)) ?_ ?_
 ·have lb_a0 := oa0.1
  have lb_a1 : a1.length ≤ 562949953421312 := oa1
  unfold Zakq
  exact Tot.inl ⟨oa0, oa1, (by omega)⟩ (by unfold Zzl lt6; dsimp only; omega)
 ·intro s hs
  cases s with
  | L0 v0 v1 v5 => exact Za3r v0 v1 v5 hs
abbrev Z9t : Zkg → Prop
 | .L0 v0 v1 v5 => ((SzL 176 Zb9) v0) ∧ (SzT v1) ∧ (0 ≤ v5)
abbrev Zsl : Zkg → M6
 | .L0 v0 v1 v5 => (1, ((v0.length : Int) - v5).toNat, 1000000, 0, 0, 0)
theorem Zayy (v0 : (List Zw)) (v1 : (List UInt8)) (v5 : Int) (h : Z9t (.L0 v0 v1 v5)) : Tot (Z2t v0 v1 v5) (Nx Z9t Zsl (Zsl (.L0 v0 v1 v5)) (fun r => True)) := by
 obtain ⟨ov0, ov1, cv5⟩ := h
 have lb_v0 := ov0.1
 have lb_v1 : v1.length ≤ 562949953421312 := ov1
 unfold Z2t
 have q1 := ov0.1
 refine Tot.dif (fun h2 => ?_) (fun h2 => ?_)
 ·refine Tot.bind (Tot.idx (by omega) (by omega)) (fun x3 h4 => ?_)
  have oh4 : Zb9 x3 := ov0.2 x3 h4.1
  refine Tot.bif (fun h5 => ?_) (fun h5 => ?_)
  ·refine Tot.bif (fun h6 => ?_) (fun h6 => ?_)
   ·exact Tot.inr trivial
   ·have q7 := Za3 (v5 + 1)
    have q8 := Za4 (v5 + 1)
    exact Tot.inl ⟨ov0, ov1, (by omega)⟩ (by unfold Zsl lt6; dsimp only; omega)
  ·have q9 := Za3 (v5 + 1)
   have q10 := Za4 (v5 + 1)
   exact Tot.inl ⟨ov0, ov1, (by omega)⟩ (by unfold Zsl lt6; dsimp only; omega)
 ·exact Tot.inr trivial
theorem Zbbu (a0 : (List Zw)) (a1 : (List UInt8)) (oa0 : (SzL 176 Zb9) a0) (oa1 : SzT a1) : Tot (Zae5 a0 a1) (fun r => True) := by
 unfold Zae5
 refine Tot.fin (Inv := Z9t) (μ := Zsl) (m := (1000000, 0, 0, 0, 0, 0)) ?_ ?_
 ·have lb_a0 := oa0.1
  have lb_a1 : a1.length ≤ 562949953421312 := oa1
  unfold Zagt
  exact Tot.inl ⟨oa0, oa1, (by omega)⟩ (by unfold Zsl lt6; dsimp only; omega)
 ·intro s hs
  cases s with
  | L0 v0 v1 v5 => exact Zayy v0 v1 v5 hs
abbrev Zqo : Zga → Prop
 | .L0 v0 E0 v5 => ((SzL 176 Zb9) v0) ∧ (Zb9 E0) ∧ (0 ≤ v5)
 | .L1 v0 E0 v5 v6 => ((SzL 176 Zb9) v0) ∧ (Zb9 E0) ∧ (0 ≤ v5) ∧ (0 ≤ v6) ∧ (v5 < (E0.Abilities.length : Int)) ∧ (v5 < (E0.Abilities.length : Int))
abbrev Zih : Zga → M6
 | .L0 v0 E0 v5 => (1, ((E0.Abilities.length : Int) - v5).toNat, 1000000, 0, 0, 0)
 | .L1 v0 E0 v5 v6 => (1, ((E0.Abilities.length : Int) - v5).toNat, 1, ((((E0.Abilities[v5.toNat]?).map fun x => x.Effects.length).getD 0 : Nat) - v6).toNat, 1000000, 0)
theorem Zar8 (v0 : (List Zw)) (E0 : Zw) (v5 : Int) (h : Zqo (.L0 v0 E0 v5)) : Tot (Zx8 v0 E0 v5) (Nx Zqo Zih (Zih (.L0 v0 E0 v5)) (fun r => True)) := by
 obtain ⟨ov0, ob30000000, cv5⟩ := h
 have lb_v0 := ov0.1
 unfold Zx8
 have q1 := ob30000000.2.2.1
 refine Tot.dif (fun h2 => ?_) (fun h2 => ?_)
 ·exact Tot.inl ⟨ov0, ob30000000, (by omega), (by omega), (by omega), (by omega)⟩ (by unfold Zih lt6; dsimp only; omega)
 ·exact Tot.inr trivial
theorem Zar9 (v0 : (List Zw)) (E0 : Zw) (v5 : Int) (v6 : Int) (h : Zqo (.L1 v0 E0 v5 v6)) : Tot (Zx9 v0 E0 v5 v6) (Nx Zqo Zih (Zih (.L1 v0 E0 v5 v6)) (fun r => True)) := by
 obtain ⟨ov0, ob30000000, cv5, cv6, bd4, i0⟩ := h
 have lb_v0 := ov0.1
 unfold Zx9
 have lx_0 := ob30000000.2.2.1
 refine Tot.bind (Tot.idx (by omega) (by omega)) (fun x1 h2 => ?_)
 have oh2 : Zdd x1 := ob30000000.2.2.2 x1 h2.1
 have mh2 : ((E0.Abilities[v5.toNat]?).map fun x => x.Effects.length).getD 0 = x1.Effects.length := by rw [h2.2]; rfl
 have q3 := oh2.2.2.2.2.1.1
 refine Tot.dif (fun h4 => ?_) (fun h4 => ?_)
 ·refine Tot.bind (Tot.idx (by omega) (by omega)) (fun x5 h6 => ?_)
  have oh6 : Za7 x5 := oh2.2.2.2.2.1.2 x5 h6.1
  refine Tot.ieq (fun h7 => ?_) (fun h7 => ?_)
  ·refine Tot.bind (Zbbu v0 x5.Card ov0 (SzS.t oh6.2.2.1)) (fun x8 h9 => ?_)
   refine Tot.not (fun h10 => ?_) (fun h10 => ?_)
   ·exact Tot.inr trivial
   ·have q11 := Za3 (v6 + 1)
    have q12 := Za4 (v6 + 1)
    exact Tot.inl ⟨ov0, ob30000000, (by omega), (by omega), (by omega), (by omega)⟩ (by unfold Zih lt6; dsimp only; omega)
  ·have q13 := Za3 (v6 + 1)
   have q14 := Za4 (v6 + 1)
   exact Tot.inl ⟨ov0, ob30000000, (by omega), (by omega), (by omega), (by omega)⟩ (by unfold Zih lt6; dsimp only; omega)
 ·have q15 := Za3 (v5 + 1)
  have q16 := Za4 (v5 + 1)
  exact Tot.inl ⟨ov0, ob30000000, (by omega)⟩ (by unfold Zih lt6; dsimp only; omega)
theorem Za3s (a0 : (List Zw)) (a1 : Zw) (oa0 : (SzL 176 Zb9) a0) (oa1 : Zb9 a1) : Tot (Z6z a0 a1) (fun r => True) := by
 unfold Z6z
 refine Tot.fin (Inv := Zqo) (μ := Zih) (m := (1000000, 0, 0, 0, 0, 0)) ?_ ?_
 ·have lb_a0 := oa0.1
  unfold Z8c
  exact Tot.inl ⟨oa0, oa1, (by omega)⟩ (by unfold Zih lt6; dsimp only; omega)
 ·intro s hs
  cases s with
  | L0 v0 E0 v5 => exact Zar8 v0 E0 v5 hs
  | L1 v0 E0 v5 v6 => exact Zar9 v0 E0 v5 v6 hs
abbrev Z9u : Zkh → Prop
 | .L0 v0 v4 => ((SzL 176 Zb9) v0) ∧ (0 ≤ v4)
abbrev Zxp : Zkh → M6
 | .L0 v0 v4 => (1, ((v0.length : Int) - v4).toNat, 1000000, 0, 0, 0)
theorem Zayz (v0 : (List Zw)) (v4 : Int) (h : Z9u (.L0 v0 v4)) : Tot (Z2u v0 v4) (Nx Z9u Zxp (Zxp (.L0 v0 v4)) (fun r => True)) := by
 obtain ⟨ov0, cv4⟩ := h
 have lb_v0 := ov0.1
 unfold Z2u
 have q1 := ov0.1
 refine Tot.dif (fun h2 => ?_) (fun h2 => ?_)
 ·refine Tot.bind (Tot.idx (by omega) (by omega)) (fun x3 h4 => ?_)
  have oh4 : Zb9 x3 := ov0.2 x3 h4.1
  refine Tot.bind (Zbmj x3 oh4) (fun x5 h6 => ?_)
  refine Tot.not (fun h7 => ?_) (fun h7 => ?_)
  ·exact Tot.inr trivial
  ·refine Tot.bind (Zbgt v0 x3.Name ov0 (SzS.t oh4.1)) (fun x8 h9 => ?_)
   refine Tot.dif (fun h10 => ?_) (fun h10 => ?_)
   ·exact Tot.inr trivial
   ·refine Tot.bind (Za3s v0 x3 ov0 oh4) (fun x11 h12 => ?_)
    refine Tot.not (fun h13 => ?_) (fun h13 => ?_)
    ·exact Tot.inr trivial
    ·have q14 := Za3 (v4 + 1)
     have q15 := Za4 (v4 + 1)
     exact Tot.inl ⟨ov0, (by omega)⟩ (by unfold Zxp lt6; dsimp only; omega)
 ·exact Tot.inr trivial
theorem Zbbv (a0 : (List Zw)) (oa0 : (SzL 176 Zb9) a0) : Tot (Zae6 a0) (fun r => True) := by
 unfold Zae6
 refine Tot.fin (Inv := Z9u) (μ := Zxp) (m := (1000000, 0, 0, 0, 0, 0)) ?_ ?_
 ·have lb_a0 := oa0.1
  unfold Zagu
  have q1 := oa0.1
  refine Tot.dif (fun h2 => ?_) (fun h2 => ?_)
  ·exact Tot.inr trivial
  ·exact Tot.inl ⟨oa0, (by omega)⟩ (by unfold Zxp lt6; dsimp only; omega)
 ·intro s hs
  cases s with
  | L0 v0 v4 => exact Zayz v0 v4 hs
abbrev Zbmk : Zth → Prop := fun _ => True
abbrev Zbob : Zth → M6 := fun _ => (0, 0, 0, 0, 0, 0)
theorem Zix (a0 : Int) (a1 : Int) (a2 : Int) : Tot (Znq a0 a1 a2) (fun r => True) := by
 unfold Znq
 refine Tot.fin (Inv := Zbmk) (μ := Zbob) (m := (1000000, 0, 0, 0, 0, 0)) ?_ ?_
 ·unfold Zawv
  refine Tot.dif (fun h1 => ?_) (fun h1 => ?_)
  ·exact Tot.inr trivial
  ·exact Tot.inr trivial
 ·intro s
  cases s
abbrev Z9v : Zki → Prop
 | .L0 E0 v3 => (0 ≤ v3)
abbrev Zxq : Zki → M6
 | .L0 E0 v3 => (1, (6 - v3).toNat, 1000000, 0, 0, 0)
theorem Zay0 (E0 : (A6 Int)) (v3 : Int) (h : Z9v (.L0 E0 v3)) : Tot (Z2v E0 v3) (Nx Z9v Zxq (Zxq (.L0 E0 v3)) (fun r => True)) := by
 have cv3 := h
 unfold Z2v
 refine Tot.dif (fun h1 => ?_) (fun h1 => ?_)
 ·refine Tot.bind (Tot.idx (by omega) (by have e : (A6.list E0).length = 6 := rfl; omega)) (fun x2 h3 => ?_)
  refine Tot.dif (fun h4 => ?_) (fun h4 => ?_)
  ·exact Tot.inr trivial
  ·refine Tot.bind (Tot.idx (by omega) (by have e : (A6.list E0).length = 6 := rfl; omega)) (fun x5 h6 => ?_)
   refine Tot.dif (fun h7 => ?_) (fun h7 => ?_)
   ·exact Tot.inr trivial
   ·have q8 := Za3 (v3 + 1)
    have q9 := Za4 (v3 + 1)
    exact Tot.inl (by omega) (by unfold Zxq lt6; dsimp only; omega)
 ·exact Tot.inr trivial
theorem Zbbw (a0 : (A6 Int)) : Tot (Zae7 a0) (fun r => True) := by
 unfold Zae7
 refine Tot.fin (Inv := Z9v) (μ := Zxq) (m := (1000000, 0, 0, 0, 0, 0)) ?_ ?_
 ·unfold Zagv
  exact Tot.inl (by omega) (by unfold Zxq lt6; dsimp only; omega)
 ·intro s hs
  cases s with
  | L0 E0 v3 => exact Zay0 E0 v3 hs
abbrev Zan5 (a0 : Zd) (a1 : Int) : Zkj → Prop
 | .L0 v1 E0 v5 => (E0 = a0) ∧ (Zap E0) ∧ (0 ≤ v5)
abbrev Z4n : Zkj → M6
 | .L0 v1 E0 v5 => (1, ((E0.Objects.length : Int) - v5).toNat, 1000000, 0, 0, 0)
theorem Zay1 (a0 : Zd) (a1 : Int) (v1 : Int) (E0 : Zd) (v5 : Int) (h : (E0 = a0) ∧ (Zap E0) ∧ (0 ≤ v5)) : Tot (Zkk v1 E0 v5) (Nx (Zan5 a0 a1) Z4n (1, ((E0.Objects.length : Int) - v5).toNat, 1000000, 0, 0, 0) (fun r => (r < (a0.Objects.length : Int)))) := by
 obtain ⟨al0, ob30000000, cv5⟩ := h
 subst al0
 unfold Zkk
 have q1 := ob30000000.2.1.1
 refine Tot.dif (fun h2 => ?_) (fun h2 => ?_)
 ·refine Tot.bind (Tot.idx (by omega) (by omega)) (fun x3 h4 => ?_)
  refine Tot.ieq (fun h5 => ?_) (fun h5 => ?_)
  ·exact Tot.inr (show (v5 < (E0.Objects.length : Int)) from (by omega))
  ·have q6 := Za3 (v5 + 1)
   have q7 := Za4 (v5 + 1)
   exact Tot.inl ⟨rfl, ob30000000, (by omega)⟩ (by unfold Z4n lt6; dsimp only; omega)
 ·exact Tot.inr (show ((-1) < (E0.Objects.length : Int)) from (by omega))
theorem Zbbx (a0 : Zd) (a1 : Int) (oa0 : Zap a0) : Tot (Z1z a0 a1) (fun r => (r < (a0.Objects.length : Int))) := by
 unfold Z1z
 refine Tot.fin (Inv := (Zan5 a0 a1)) (μ := Z4n) (m := (1000000, 0, 0, 0, 0, 0)) ?_ ?_
 ·unfold Z60
  exact Tot.inl ⟨rfl, oa0, (by omega)⟩ (by unfold Z4n lt6; dsimp only; omega)
 ·intro s hs
  cases s with
  | L0 v1 E0 v5 => exact Zay1 a0 a1 v1 E0 v5 hs
abbrev Zbgu : Zou → Prop := fun _ => True
abbrev Zbkd : Zou → M6 := fun _ => (0, 0, 0, 0, 0, 0)
theorem Zbgv (a0 : Zd) (a1 : Int) (oa0 : Zap a0) : Tot (Zabr a0 a1) (fun r => True) := by
 unfold Zabr
 refine Tot.fin (Inv := Zbgu) (μ := Zbkd) (m := (1000000, 0, 0, 0, 0, 0)) ?_ ?_
 ·unfold Zaad
  refine Tot.bind (Zbbx a0 a1 oa0) (fun x1 h2 => ?_)
  replace h2 : (x1 < (a0.Objects.length : Int)) := h2
  have eh2_0 := h2
  try simp only [List.length_nil, List.length_cons, Nat.zero_add] at eh2_0
  refine Tot.dif (fun h3 => ?_) (fun h3 => ?_)
  ·exact Tot.inr trivial
  ·refine Tot.bind (Tot.idx (by omega) (by omega)) (fun x4 h5 => ?_)
   exact Tot.inr trivial
 ·intro s
  cases s
abbrev Za62 : Zlt → Prop := fun _ => True
abbrev Zbby : Zlt → M6 := fun _ => (0, 0, 0, 0, 0, 0)
theorem Zajl (a0 : Zd) (a1 : Int) (oa0 : Zap a0) : Tot (Zti a0 a1) (fun r => True) := by
 unfold Zti
 refine Tot.fin (Inv := Za62) (μ := Zbby) (m := (1000000, 0, 0, 0, 0, 0)) ?_ ?_
 ·unfold Z2w
  refine Tot.bind (Zbgv a0 a1 oa0) (fun x1 h2 => ?_)
  exact Tot.inr trivial
 ·intro s
  cases s
abbrev Z9w : Zkl → Prop
 | .L0 v0 v1 v5 v6 => ((SzL 8 (fun _ => True)) v0) ∧ (0 ≤ v6)
abbrev Zsm : Zkl → M6
 | .L0 v0 v1 v5 v6 => (1, ((v0.length : Int) - v6).toNat, 1000000, 0, 0, 0)
theorem Zay2 (v0 : (List Int)) (v1 : Int) (v5 : Int) (v6 : Int) (h : Z9w (.L0 v0 v1 v5 v6)) : Tot (Zrq v0 v1 v5 v6) (Nx Z9w Zsm (Zsm (.L0 v0 v1 v5 v6)) (fun r => True)) := by
 obtain ⟨ov0, cv6⟩ := h
 have lb_v0 := ov0.1
 unfold Zrq
 have q1 := ov0.1
 refine Tot.dif (fun h2 => ?_) (fun h2 => ?_)
 ·refine Tot.bind (Tot.idx (by omega) (by omega)) (fun x3 h4 => ?_)
  refine Tot.ieq (fun h5 => ?_) (fun h5 => ?_)
  ·have q6 := Za3 (v5 + 1)
   have q7 := Za4 (v5 + 1)
   have q8 := Za3 (v6 + 1)
   have q9 := Za4 (v6 + 1)
   exact Tot.inl ⟨ov0, (by omega)⟩ (by unfold Zsm lt6; dsimp only; omega)
  ·have q10 := Za3 (v6 + 1)
   have q11 := Za4 (v6 + 1)
   exact Tot.inl ⟨ov0, (by omega)⟩ (by unfold Zsm lt6; dsimp only; omega)
 ·exact Tot.inr trivial
theorem Z9x (a0 : (List Int)) (a1 : Int) (oa0 : (SzL 8 (fun _ => True)) a0) : Tot (Zqd a0 a1) (fun r => True) := by
 unfold Zqd
 refine Tot.fin (Inv := Z9w) (μ := Zsm) (m := (1000000, 0, 0, 0, 0, 0)) ?_ ?_
 ·have lb_a0 := oa0.1
  unfold Z61
  exact Tot.inl ⟨oa0, (by omega)⟩ (by unfold Zsm lt6; dsimp only; omega)
 ·intro s hs
  cases s with
  | L0 v0 v1 v5 v6 => exact Zay2 v0 v1 v5 v6 hs
abbrev Zaeh : Zjp → Prop
 | .L0 v1 v2 v3 E0 v9 => ((SzL 8 (fun _ => True)) v1) ∧ (Zap E0) ∧ (0 ≤ v9)
abbrev Zva : Zjp → M6
 | .L0 v1 v2 v3 E0 v9 => (1, ((v1.length : Int) - v9).toNat, 1000000, 0, 0, 0)
theorem Za3t (v1 : (List Int)) (v2 : Int) (v3 : Int) (E0 : Zd) (v9 : Int) (h : Zaeh (.L0 v1 v2 v3 E0 v9)) : Tot (Zu3 v1 v2 v3 E0 v9) (Nx Zaeh Zva (Zva (.L0 v1 v2 v3 E0 v9)) (fun r => True)) := by
 obtain ⟨ov1, ob30000000, cv9⟩ := h
 have lb_v1 := ov1.1
 unfold Zu3
 have q1 := ov1.1
 refine Tot.dif (fun h2 => ?_) (fun h2 => ?_)
 ·refine Tot.bind (Tot.idx (by omega) (by omega)) (fun x3 h4 => ?_)
  refine Tot.bind (Zajl E0 x3 ob30000000) (fun x5 h6 => ?_)
  refine Tot.not (fun h7 => ?_) (fun h7 => ?_)
  ·exact Tot.inr trivial
  ·refine Tot.ine (fun h8 => ?_) (fun h8 => ?_)
   ·exact Tot.inr trivial
   ·refine Tot.dif (fun h9 => ?_) (fun h9 => ?_)
    ·refine Tot.ine (fun h10 => ?_) (fun h10 => ?_)
     ·exact Tot.inr trivial
     ·refine Tot.bind (Z9x v1 x3 ov1) (fun x11 h12 => ?_)
      refine Tot.ine (fun h13 => ?_) (fun h13 => ?_)
      ·exact Tot.inr trivial
      ·have q14 := Za3 (v9 + 1)
       have q15 := Za4 (v9 + 1)
       exact Tot.inl ⟨ov1, ob30000000, (by omega)⟩ (by unfold Zva lt6; dsimp only; omega)
    ·refine Tot.bind (Z9x v1 x3 ov1) (fun x16 h17 => ?_)
     refine Tot.ine (fun h18 => ?_) (fun h18 => ?_)
     ·exact Tot.inr trivial
     ·have q19 := Za3 (v9 + 1)
      have q20 := Za4 (v9 + 1)
      exact Tot.inl ⟨ov1, ob30000000, (by omega)⟩ (by unfold Zva lt6; dsimp only; omega)
 ·exact Tot.inr trivial
theorem Zxr (a0 : Zd) (a1 : (List Int)) (a2 : Int) (a3 : Int) (oa0 : Zap a0) (oa1 : (SzL 8 (fun _ => True)) a1) : Tot (Zij a0 a1 a2 a3) (fun r => True) := by
 unfold Zij
 refine Tot.fin (Inv := Zaeh) (μ := Zva) (m := (1000000, 0, 0, 0, 0, 0)) ?_ ?_
 ·have lb_a1 := oa1.1
  unfold Zaae
  exact Tot.inl ⟨oa1, oa0, (by omega)⟩ (by unfold Zva lt6; dsimp only; omega)
 ·intro s hs
  cases s with
  | L0 v1 v2 v3 E0 v9 => exact Za3t v1 v2 v3 E0 v9 hs
abbrev Z4o : Zhy → Prop
 | .L0 E0 v3 => (Zap E0) ∧ (0 ≤ v3)
abbrev Zsn : Zhy → M6
 | .L0 E0 v3 => (1, ((E0.Players.length : Int) - v3).toNat, 1000000, 0, 0, 0)
theorem Zasa (E0 : Zd) (v3 : Int) (h : Z4o (.L0 E0 v3)) : Tot (Zpc E0 v3) (Nx Z4o Zsn (Zsn (.L0 E0 v3)) (fun r => True)) := by
 obtain ⟨ob30000000, cv3⟩ := h
 unfold Zpc
 have q1 := ob30000000.1.1
 refine Tot.dif (fun h2 => ?_) (fun h2 => ?_)
 ·refine Tot.bind (Tot.idx (by omega) (by omega)) (fun x3 h4 => ?_)
  have oh4 : Zmk x3 := ob30000000.1.2 x3 h4.1
  refine Tot.bind (Zix x3.Life (-1000000) 1000000) (fun x5 h6 => ?_)
  refine Tot.not (fun h7 => ?_) (fun h7 => ?_)
  ·exact Tot.inr trivial
  ·refine Tot.bind (Zix x3.Venom 0 1000000) (fun x8 h9 => ?_)
   refine Tot.not (fun h10 => ?_) (fun h10 => ?_)
   ·exact Tot.inr trivial
   ·refine Tot.bind (Zix x3.Lands 0 1000000) (fun x11 h12 => ?_)
    refine Tot.not (fun h13 => ?_) (fun h13 => ?_)
    ·exact Tot.inr trivial
    ·refine Tot.bind (Zbbw x3.Pool) (fun x14 h15 => ?_)
     refine Tot.not (fun h16 => ?_) (fun h16 => ?_)
     ·exact Tot.inr trivial
     ·refine Tot.bind (Zxr E0 x3.Library 2 v3 ob30000000 oh4.1) (fun x17 h18 => ?_)
      refine Tot.not (fun h19 => ?_) (fun h19 => ?_)
      ·exact Tot.inr trivial
      ·refine Tot.bind (Zxr E0 x3.Hand 1 v3 ob30000000 oh4.2.1) (fun x20 h21 => ?_)
       refine Tot.not (fun h22 => ?_) (fun h22 => ?_)
       ·exact Tot.inr trivial
       ·refine Tot.bind (Zxr E0 x3.Graveyard 3 v3 ob30000000 oh4.2.2) (fun x23 h24 => ?_)
        refine Tot.not (fun h25 => ?_) (fun h25 => ?_)
        ·exact Tot.inr trivial
        ·have q26 := Za3 (v3 + 1)
         have q27 := Za4 (v3 + 1)
         exact Tot.inl ⟨ob30000000, (by omega)⟩ (by unfold Zsn lt6; dsimp only; omega)
 ·refine Tot.bind (Zxr E0 E0.Battlefield 0 (-1) ob30000000 ob30000000.2.2.1) (fun x28 h29 => ?_)
  refine Tot.bif (fun h30 => ?_) (fun h30 => ?_)
  ·refine Tot.bind (Zxr E0 E0.Exile 4 (-1) ob30000000 ob30000000.2.2.2.1) (fun x31 h32 => ?_)
   exact Tot.inr trivial
  ·exact Tot.inr trivial
theorem Za3u (a0 : Zd) (oa0 : Zap a0) : Tot (Zqr a0) (fun r => True) := by
 unfold Zqr
 refine Tot.fin (Inv := Z4o) (μ := Zsn) (m := (1000000, 0, 0, 0, 0, 0)) ?_ ?_
 ·unfold Zzs
  have q1 := oa0.1.1
  refine Tot.bind (Zix (a0.Players.length : Int) 2 4) (fun x2 h3 => ?_)
  refine Tot.not (fun h4 => ?_) (fun h4 => ?_)
  ·exact Tot.inr trivial
  ·exact Tot.inl ⟨oa0, (by omega)⟩ (by unfold Zsn lt6; dsimp only; omega)
 ·intro s hs
  cases s with
  | L0 E0 v3 => exact Zasa E0 v3 hs
abbrev Za63 : Zlu → Prop := fun _ => True
abbrev Zbbz : Zlu → M6 := fun _ => (0, 0, 0, 0, 0, 0)
theorem Zm1 (a0 : Zd) (a1 : Int) (oa0 : Zap a0) : Tot (Znd a0 a1) (fun r => True) := by
 unfold Znd
 refine Tot.fin (Inv := Za63) (μ := Zbbz) (m := (1000000, 0, 0, 0, 0, 0)) ?_ ?_
 ·unfold Zabt
  have q1 := oa0.1.1
  have q2 := Za3 ((a0.Players.length : Int) - 1)
  have q3 := Za4 ((a0.Players.length : Int) - 1)
  refine Tot.bind (Zix a1 0 (IntKind.wrap .i64 ((a0.Players.length : Int) - 1))) (fun x4 h5 => ?_)
  exact Tot.inr trivial
 ·intro s
  cases s
abbrev Zami : Zpl → Prop
 | .L0 E0 v3 => (0 ≤ v3)
abbrev Z75 : Zpl → M6
 | .L0 E0 v3 => (1, (3 - v3).toNat, 1000000, 0, 0, 0)
theorem Zbb0 (E0 : (A3 Int)) (v3 : Int) (h : Zami (.L0 E0 v3)) : Tot (Zae8 E0 v3) (Nx Zami Z75 (Z75 (.L0 E0 v3)) (fun r => True)) := by
 have cv3 := h
 unfold Zae8
 refine Tot.dif (fun h1 => ?_) (fun h1 => ?_)
 ·refine Tot.bind (Tot.idx (by omega) (by have e : (A3.list E0).length = 3 := rfl; omega)) (fun x2 h3 => ?_)
  refine Tot.dif (fun h4 => ?_) (fun h4 => ?_)
  ·exact Tot.inr trivial
  ·refine Tot.bind (Tot.idx (by omega) (by have e : (A3.list E0).length = 3 := rfl; omega)) (fun x5 h6 => ?_)
   refine Tot.dif (fun h7 => ?_) (fun h7 => ?_)
   ·exact Tot.inr trivial
   ·have q8 := Za3 (v3 + 1)
    have q9 := Za4 (v3 + 1)
    exact Tot.inl (by omega) (by unfold Z75 lt6; dsimp only; omega)
 ·exact Tot.inr trivial
theorem Zbml (a0 : (A3 Int)) : Tot (Za0h a0) (fun r => True) := by
 unfold Za0h
 refine Tot.fin (Inv := Zami) (μ := Z75) (m := (1000000, 0, 0, 0, 0, 0)) ?_ ?_
 ·unfold Zaww
  exact Tot.inl (by omega) (by unfold Z75 lt6; dsimp only; omega)
 ·intro s hs
  cases s with
  | L0 E0 v3 => exact Zbb0 E0 v3 hs
abbrev Zbgw : Zov → Prop := fun _ => True
abbrev Zbke : Zov → M6 := fun _ => (0, 0, 0, 0, 0, 0)
theorem Zbgx (a0 : Zf) : Tot (Zakt a0) (fun r => True) := by
 unfold Zakt
 refine Tot.fin (Inv := Zbgw) (μ := Zbke) (m := (1000000, 0, 0, 0, 0, 0)) ?_ ?_
 ·unfold Zaks
  exact Tot.inr trivial
 ·intro s
  cases s
abbrev Zbb1 : Zne → Prop := fun _ => True
abbrev Zbgy : Zne → M6 := fun _ => (0, 0, 0, 0, 0, 0)
theorem Zbb2 (a0 : Zf) : Tot (Zae9 a0) (fun r => True) := by
 unfold Zae9
 refine Tot.fin (Inv := Zbb1) (μ := Zbgy) (m := (1000000, 0, 0, 0, 0, 0)) ?_ ?_
 ·unfold Zagw
  exact Tot.inr trivial
 ·intro s
  cases s
abbrev Zbmm : Ztj → Prop := fun _ => True
abbrev Zboc : Ztj → M6 := fun _ => (0, 0, 0, 0, 0, 0)
theorem Zbmn (a0 : Zf) (a1 : Int) (a2 : Int) : Tot (Za0i a0 a1 a2) (fun r => True) := by
 unfold Za0i
 refine Tot.fin (Inv := Zbmm) (μ := Zboc) (m := (1000000, 0, 0, 0, 0, 0)) ?_ ?_
 ·unfold Zawx
  refine Tot.dif (fun h1 => ?_) (fun h1 => ?_)
  ·exact Tot.inr trivial
  ·refine Tot.dif (fun h2 => ?_) (fun h2 => ?_)
   ·exact Tot.inr trivial
   ·refine Tot.dif (fun h3 => ?_) (fun h3 => ?_)
    ·exact Tot.inr trivial
    ·refine Tot.dif (fun h4 => ?_) (fun h4 => ?_)
     ·exact Tot.inr trivial
     ·refine Tot.dif (fun h5 => ?_) (fun h5 => ?_)
      ·exact Tot.inr trivial
      ·refine Tot.dif (fun h6 => ?_) (fun h6 => ?_)
       ·exact Tot.inr trivial
       ·refine Tot.dif (fun h7 => ?_) (fun h7 => ?_)
        ·exact Tot.inr trivial
        ·refine Tot.dif (fun h8 => ?_) (fun h8 => ?_)
         ·exact Tot.inr trivial
         ·refine Tot.dif (fun h9 => ?_) (fun h9 => ?_)
          ·exact Tot.inr trivial
          ·refine Tot.dif (fun h10 => ?_) (fun h10 => ?_)
           ·exact Tot.inr trivial
           ·refine Tot.dif (fun h11 => ?_) (fun h11 => ?_)
            ·exact Tot.inr trivial
            ·refine Tot.dif (fun h12 => ?_) (fun h12 => ?_)
             ·exact Tot.inr trivial
             ·refine Tot.dif (fun h13 => ?_) (fun h13 => ?_)
              ·exact Tot.inr trivial
              ·refine Tot.dif (fun h14 => ?_) (fun h14 => ?_)
               ·exact Tot.inr trivial
               ·refine Tot.dif (fun h15 => ?_) (fun h15 => ?_)
                ·exact Tot.inr trivial
                ·refine Tot.dif (fun h16 => ?_) (fun h16 => ?_)
                 ·exact Tot.inr trivial
                 ·refine Tot.dif (fun h17 => ?_) (fun h17 => ?_)
                  ·exact Tot.inr trivial
                  ·refine Tot.bind (Zbml a0.Counters) (fun x18 h19 => ?_)
                   refine Tot.not (fun h20 => ?_) (fun h20 => ?_)
                   ·exact Tot.inr trivial
                   ·refine Tot.dif (fun h21 => ?_) (fun h21 => ?_)
                    ·exact Tot.inr trivial
                    ·refine Tot.dif (fun h22 => ?_) (fun h22 => ?_)
                     ·exact Tot.inr trivial
                     ·refine Tot.dif (fun h23 => ?_) (fun h23 => ?_)
                      ·exact Tot.inr trivial
                      ·refine Tot.dif (fun h24 => ?_) (fun h24 => ?_)
                       ·exact Tot.inr trivial
                       ·refine Tot.ieq (fun h25 => ?_) (fun h25 => ?_)
                        ·exact Tot.inr trivial
                        ·refine Tot.bind (Zbgx a0) (fun x26 h27 => ?_)
                         refine Tot.bif (fun h28 => ?_) (fun h28 => ?_)
                         ·refine Tot.bind (Zbb2 a0) (fun x29 h30 => ?_)
                          refine Tot.bif (fun h31 => ?_) (fun h31 => ?_)
                          ·refine Tot.not (fun h32 => ?_) (fun h32 => ?_)
                           ·refine Tot.not (fun h33 => ?_) (fun h33 => ?_)
                            ·exact Tot.inr trivial
                            ·exact Tot.inr trivial
                           ·exact Tot.inr trivial
                          ·exact Tot.inr trivial
                         ·exact Tot.inr trivial
 ·intro s
  cases s
abbrev Z6e : Zi6 → Prop
 | .L0 v1 E0 v5 v6 => (Zap E0) ∧ (0 ≤ v6)
abbrev Zof : Zi6 → M6
 | .L0 v1 E0 v5 v6 => (1, ((E0.Stack.length : Int) - v6).toNat, 1000000, 0, 0, 0)
theorem Zaul (v1 : Int) (E0 : Zd) (v5 : Int) (v6 : Int) (h : Z6e (.L0 v1 E0 v5 v6)) : Tot (Zzt v1 E0 v5 v6) (Nx Z6e Zof (Zof (.L0 v1 E0 v5 v6)) (fun r => True)) := by
 obtain ⟨ob30000000, cv6⟩ := h
 unfold Zzt
 have q1 := ob30000000.2.2.2.2.1.1
 refine Tot.dif (fun h2 => ?_) (fun h2 => ?_)
 ·refine Tot.bind (Tot.idx (by omega) (by omega)) (fun x3 h4 => ?_)
  have oh4 : Zlf x3 := ob30000000.2.2.2.2.1.2 x3 h4.1
  refine Tot.ieq (fun h5 => ?_) (fun h5 => ?_)
  ·refine Tot.ieq (fun h6 => ?_) (fun h6 => ?_)
   ·have q7 := Za3 (v5 + 1)
    have q8 := Za4 (v5 + 1)
    have q9 := Za3 (v6 + 1)
    have q10 := Za4 (v6 + 1)
    exact Tot.inl ⟨ob30000000, (by omega)⟩ (by unfold Zof lt6; dsimp only; omega)
   ·have q11 := Za3 (v6 + 1)
    have q12 := Za4 (v6 + 1)
    exact Tot.inl ⟨ob30000000, (by omega)⟩ (by unfold Zof lt6; dsimp only; omega)
  ·have q13 := Za3 (v6 + 1)
   have q14 := Za4 (v6 + 1)
   exact Tot.inl ⟨ob30000000, (by omega)⟩ (by unfold Zof lt6; dsimp only; omega)
 ·exact Tot.inr trivial
theorem Za64 (a0 : Zd) (a1 : Int) (oa0 : Zap a0) : Tot (Zaaf a0 a1) (fun r => True) := by
 unfold Zaaf
 refine Tot.fin (Inv := Z6e) (μ := Zof) (m := (1000000, 0, 0, 0, 0, 0)) ?_ ?_
 ·unfold Zabu
  exact Tot.inl ⟨oa0, (by omega)⟩ (by unfold Zof lt6; dsimp only; omega)
 ·intro s hs
  cases s with
  | L0 v1 E0 v5 v6 => exact Zaul v1 E0 v5 v6 hs
abbrev Zbgz : Zow → Prop := fun _ => True
abbrev Zbkf : Zow → M6 := fun _ => (0, 0, 0, 0, 0, 0)
theorem Zxs (a0 : (List Int)) (oa0 : (SzL 8 (fun _ => True)) a0) : Tot (Zqs a0) (fun r => ((SzL 8 (fun _ => True)) r)) := by
 unfold Zqs
 refine Tot.fin (Inv := Zbgz) (μ := Zbkf) (m := (1000000, 0, 0, 0, 0, 0)) ?_ ?_
 ·have lb_a0 := oa0.1
  unfold Zaag
  refine Tot.bind ((by have q3 : a0.length * 8 ≤ 140737488351232 := oa0.1;  exact Tot.app (by first | omega | (simp only [List.length_cons, List.length_nil]; omega)) (by decide))) (fun x1 h2 => ?_)
  have lh2 : x1.length = ([] : (List Int)).length + a0.length := by rw [h2, List.length_append]
  try simp only [List.length_cons, List.length_nil, Nat.zero_add] at lh2
  exact Tot.inr (show ((SzL 8 (fun _ => True)) x1) from ⟨by omega, fun _ _ => trivial⟩)
 ·intro s
  cases s
abbrev Zbg0 : Zox → Prop := fun _ => True
abbrev Zbkg : Zox → M6 := fun _ => (0, 0, 0, 0, 0, 0)
theorem Zbg1 (a0 : Zd) (a1 : Int) (a2 : Int) (oa0 : Zap a0) : Tot (Z5i a0 a1 a2) (fun r => ((SzL 8 (fun _ => True)) r)) := by
 unfold Z5i
 refine Tot.fin (Inv := Zbg0) (μ := Zbkg) (m := (1000000, 0, 0, 0, 0, 0)) ?_ ?_
 ·unfold Zaah
  refine Tot.ieq (fun h1 => ?_) (fun h1 => ?_)
  ·refine Tot.bind (Zxs a0.Battlefield oa0.2.2.1) (fun x2 h3 => ?_)
   replace h3 : ((SzL 8 (fun _ => True)) x2) := h3
   exact Tot.inr (show ((SzL 8 (fun _ => True)) x2) from h3)
  ·refine Tot.ieq (fun h4 => ?_) (fun h4 => ?_)
   ·refine Tot.bind (Zxs a0.Exile oa0.2.2.2.1) (fun x5 h6 => ?_)
    replace h6 : ((SzL 8 (fun _ => True)) x5) := h6
    exact Tot.inr (show ((SzL 8 (fun _ => True)) x5) from h6)
   ·refine Tot.dif (fun h7 => ?_) (fun h7 => ?_)
    ·exact Tot.inr (show ((SzL 8 (fun _ => True)) ([] : (List Int))) from SzL.nil)
    ·have q8 := oa0.1.1
     refine Tot.dif (fun h9 => ?_) (fun h9 => ?_)
     ·exact Tot.inr (show ((SzL 8 (fun _ => True)) ([] : (List Int))) from SzL.nil)
     ·refine Tot.ieq (fun h10 => ?_) (fun h10 => ?_)
      ·refine Tot.bind (Tot.idx (by omega) (by omega)) (fun x11 h12 => ?_)
       have oh12 : Zmk x11 := oa0.1.2 x11 h12.1
       refine Tot.bind (Zxs x11.Hand oh12.2.1) (fun x13 h14 => ?_)
       replace h14 : ((SzL 8 (fun _ => True)) x13) := h14
       exact Tot.inr (show ((SzL 8 (fun _ => True)) x13) from h14)
      ·refine Tot.ieq (fun h15 => ?_) (fun h15 => ?_)
       ·refine Tot.bind (Tot.idx (by omega) (by omega)) (fun x16 h17 => ?_)
        have oh17 : Zmk x16 := oa0.1.2 x16 h17.1
        refine Tot.bind (Zxs x16.Library oh17.1) (fun x18 h19 => ?_)
        replace h19 : ((SzL 8 (fun _ => True)) x18) := h19
        exact Tot.inr (show ((SzL 8 (fun _ => True)) x18) from h19)
       ·refine Tot.ieq (fun h20 => ?_) (fun h20 => ?_)
        ·refine Tot.bind (Tot.idx (by omega) (by omega)) (fun x21 h22 => ?_)
         have oh22 : Zmk x21 := oa0.1.2 x21 h22.1
         refine Tot.bind (Zxs x21.Graveyard oh22.2.2) (fun x23 h24 => ?_)
         replace h24 : ((SzL 8 (fun _ => True)) x23) := h24
         exact Tot.inr (show ((SzL 8 (fun _ => True)) x23) from h24)
        ·exact Tot.inr (show ((SzL 8 (fun _ => True)) ([] : (List Int))) from SzL.nil)
 ·intro s
  cases s
abbrev Za65 : Zlv → Prop := fun _ => True
abbrev Zbb3 : Zlv → M6 := fun _ => (0, 0, 0, 0, 0, 0)
theorem Zajm (a0 : Zd) (a1 : Zf) (oa0 : Zap a0) : Tot (Zoy a0 a1) (fun r => True) := by
 unfold Zoy
 refine Tot.fin (Inv := Za65) (μ := Zbb3) (m := (1000000, 0, 0, 0, 0, 0)) ?_ ?_
 ·unfold Z2x
  refine Tot.ieq (fun h1 => ?_) (fun h1 => ?_)
  ·refine Tot.bind (Za64 a0 a1.Id oa0) (fun x2 h3 => ?_)
   exact Tot.inr trivial
  ·refine Tot.bind (Zbg1 a0 a1.Zone a1.Owner oa0) (fun x4 h5 => ?_)
   replace h5 : ((SzL 8 (fun _ => True)) x4) := h5
   refine Tot.bind (Z9x x4 a1.Id h5) (fun x6 h7 => ?_)
   exact Tot.inr trivial
 ·intro s
  cases s
abbrev Z4p : Zhz → Prop
 | .L0 v0 E0 v5 => ((SzL 176 Zb9) v0) ∧ (Zap E0) ∧ (0 ≤ v5)
abbrev Zpg : Zhz → M6
 | .L0 v0 E0 v5 => (1, ((E0.Objects.length : Int) - v5).toNat, 1000000, 0, 0, 0)
theorem Zasb (v0 : (List Zw)) (E0 : Zd) (v5 : Int) (h : Z4p (.L0 v0 E0 v5)) : Tot (Zpd v0 E0 v5) (Nx Z4p Zpg (Zpg (.L0 v0 E0 v5)) (fun r => True)) := by
 obtain ⟨ov0, ob30000000, cv5⟩ := h
 have lb_v0 := ov0.1
 unfold Zpd
 have q1 := ob30000000.2.1.1
 refine Tot.dif (fun h2 => ?_) (fun h2 => ?_)
 ·refine Tot.bind (Tot.idx (by omega) (by omega)) (fun x3 h4 => ?_)
  have q5 := ov0.1
  have q6 := ob30000000.1.1
  refine Tot.bind (Zbmn x3 (v0.length : Int) (E0.Players.length : Int)) (fun x7 h8 => ?_)
  refine Tot.not (fun h9 => ?_) (fun h9 => ?_)
  ·exact Tot.inr trivial
  ·refine Tot.dif (fun h10 => ?_) (fun h10 => ?_)
   ·exact Tot.inr trivial
   ·refine Tot.dif (fun h11 => ?_) (fun h11 => ?_)
    ·exact Tot.inr trivial
    ·refine Tot.dif (fun h12 => ?_) (fun h12 => ?_)
     ·have q13 := Za3 (v5 - 1)
      have q14 := Za4 (v5 - 1)
      refine Tot.bind (Tot.idx (by omega) (by omega)) (fun x15 h16 => ?_)
      refine Tot.dif (fun h17 => ?_) (fun h17 => ?_)
      ·exact Tot.inr trivial
      ·refine Tot.bind (Zajm E0 x3 ob30000000) (fun x18 h19 => ?_)
       refine Tot.not (fun h20 => ?_) (fun h20 => ?_)
       ·exact Tot.inr trivial
       ·have q21 := Za3 (v5 + 1)
        have q22 := Za4 (v5 + 1)
        exact Tot.inl ⟨ov0, ob30000000, (by omega)⟩ (by unfold Zpg lt6; dsimp only; omega)
     ·refine Tot.bind (Zajm E0 x3 ob30000000) (fun x23 h24 => ?_)
      refine Tot.not (fun h25 => ?_) (fun h25 => ?_)
      ·exact Tot.inr trivial
      ·have q26 := Za3 (v5 + 1)
       have q27 := Za4 (v5 + 1)
       exact Tot.inl ⟨ov0, ob30000000, (by omega)⟩ (by unfold Zpg lt6; dsimp only; omega)
 ·exact Tot.inr trivial
theorem Zvz (a0 : (List Zw)) (a1 : Zd) (oa0 : (SzL 176 Zb9) a0) (oa1 : Zap a1) : Tot (Zid a0 a1) (fun r => True) := by
 unfold Zid
 refine Tot.fin (Inv := Z4p) (μ := Zpg) (m := (1000000, 0, 0, 0, 0, 0)) ?_ ?_
 ·have lb_a0 := oa0.1
  unfold Zzu
  have q1 := oa1.2.1.1
  refine Tot.dif (fun h2 => ?_) (fun h2 => ?_)
  ·exact Tot.inr trivial
  ·exact Tot.inl ⟨oa0, oa1, (by omega)⟩ (by unfold Zpg lt6; dsimp only; omega)
 ·intro s hs
  cases s with
  | L0 v0 E0 v5 => exact Zasb v0 E0 v5 hs
abbrev Z08 : Zg5 → Prop
 | .L0 v0 v1 v5 => ((SzL 176 Zau) v0) ∧ ((SzL 176 Zau) v1) ∧ (0 ≤ v5) ∧ (v0.length = v1.length)
abbrev Zqp : Zg5 → M6
 | .L0 v0 v1 v5 => (1, ((v0.length : Int) - v5).toNat, 1000000, 0, 0, 0)
theorem Zaom (v0 : (List Zh)) (v1 : (List Zh)) (v5 : Int) (h : Z08 (.L0 v0 v1 v5)) : Tot (Zvs v0 v1 v5) (Nx Z08 Zqp (Zqp (.L0 v0 v1 v5)) (fun r => True)) := by
 obtain ⟨ov0, ov1, cv5, i0⟩ := h
 have lb_v0 := ov0.1
 have lb_v1 := ov1.1
 unfold Zvs
 have q1 := ov0.1
 refine Tot.dif (fun h2 => ?_) (fun h2 => ?_)
 ·refine Tot.bind (Tot.idx (by omega) (by omega)) (fun x3 h4 => ?_)
  have oh4 : Zau x3 := ov0.2 x3 h4.1
  refine Tot.bind (Tot.idx (by omega) (by omega)) (fun x5 h6 => ?_)
  have oh6 : Zau x5 := ov1.2 x5 h6.1
  refine Tot.not (fun h7 => ?_) (fun h7 => ?_)
  ·exact Tot.inr trivial
  ·have q8 := Za3 (v5 + 1)
   have q9 := Za4 (v5 + 1)
   exact Tot.inl ⟨ov0, ov1, (by omega), (by omega)⟩ (by unfold Zqp lt6; dsimp only; omega)
 ·exact Tot.inr trivial
theorem Zaei (a0 : (List Zh)) (a1 : (List Zh)) (oa0 : (SzL 176 Zau) a0) (oa1 : (SzL 176 Zau) a1) : Tot (Zwr a0 a1) (fun r => True) := by
 unfold Zwr
 refine Tot.fin (Inv := Z08) (μ := Zqp) (m := (1000000, 0, 0, 0, 0, 0)) ?_ ?_
 ·have lb_a0 := oa0.1
  have lb_a1 := oa1.1
  unfold Z5j
  have q1 := oa0.1
  have q2 := oa1.1
  refine Tot.ine (fun h3 => ?_) (fun h3 => ?_)
  ·exact Tot.inr trivial
  ·exact Tot.inl ⟨oa0, oa1, (by omega), (by omega)⟩ (by unfold Zqp lt6; dsimp only; omega)
 ·intro s hs
  cases s with
  | L0 v0 v1 v5 => exact Zaom v0 v1 v5 hs
abbrev Zbg2 : Zoz → Prop := fun _ => True
abbrev Zbkh : Zoz → M6 := fun _ => (0, 0, 0, 0, 0, 0)
theorem Zbg3 (a0 : Zk) (a1 : Zk) (oa0 : Za7 a0) (oa1 : Za7 a1) : Tot (Zakv a0 a1) (fun r => True) := by
 unfold Zakv
 refine Tot.fin (Inv := Zbg2) (μ := Zbkh) (m := (1000000, 0, 0, 0, 0, 0)) ?_ ?_
 ·unfold Zaku
  refine Tot.ieq (fun h1 => ?_) (fun h1 => ?_)
  ·refine Tot.bif (fun h2 => ?_) (fun h2 => ?_)
   ·refine Tot.bif (fun h3 => ?_) (fun h3 => ?_)
    ·refine Tot.ieq (fun h4 => ?_) (fun h4 => ?_)
     ·refine Tot.ieq (fun h5 => ?_) (fun h5 => ?_)
      ·refine Tot.bif (fun h6 => ?_) (fun h6 => ?_)
       ·refine Tot.bif (fun h7 => ?_) (fun h7 => ?_)
        ·refine Tot.bif (fun h8 => ?_) (fun h8 => ?_)
         ·refine Tot.bind (Zaei a0.Mods a1.Mods oa0.2.2.2.2 oa1.2.2.2.2) (fun x9 h10 => ?_)
          exact Tot.inr trivial
         ·exact Tot.inr trivial
        ·exact Tot.inr trivial
       ·exact Tot.inr trivial
      ·exact Tot.inr trivial
     ·exact Tot.inr trivial
    ·exact Tot.inr trivial
   ·exact Tot.inr trivial
  ·exact Tot.inr trivial
 ·intro s
  cases s
abbrev Z09 : Zg6 → Prop
 | .L0 v0 v1 v5 => ((SzL 560 Za7) v0) ∧ ((SzL 560 Za7) v1) ∧ (0 ≤ v5) ∧ (v0.length = v1.length)
abbrev Zqq : Zg6 → M6
 | .L0 v0 v1 v5 => (1, ((v0.length : Int) - v5).toNat, 1000000, 0, 0, 0)
theorem Zaon (v0 : (List Zk)) (v1 : (List Zk)) (v5 : Int) (h : Z09 (.L0 v0 v1 v5)) : Tot (Zvt v0 v1 v5) (Nx Z09 Zqq (Zqq (.L0 v0 v1 v5)) (fun r => True)) := by
 obtain ⟨ov0, ov1, cv5, i0⟩ := h
 have lb_v0 := ov0.1
 have lb_v1 := ov1.1
 unfold Zvt
 have q1 := ov0.1
 refine Tot.dif (fun h2 => ?_) (fun h2 => ?_)
 ·refine Tot.bind (Tot.idx (by omega) (by omega)) (fun x3 h4 => ?_)
  have oh4 : Za7 x3 := ov0.2 x3 h4.1
  refine Tot.bind (Tot.idx (by omega) (by omega)) (fun x5 h6 => ?_)
  have oh6 : Za7 x5 := ov1.2 x5 h6.1
  refine Tot.bind (Zbg3 x3 x5 oh4 oh6) (fun x7 h8 => ?_)
  refine Tot.not (fun h9 => ?_) (fun h9 => ?_)
  ·exact Tot.inr trivial
  ·have q10 := Za3 (v5 + 1)
   have q11 := Za4 (v5 + 1)
   exact Tot.inl ⟨ov0, ov1, (by omega), (by omega)⟩ (by unfold Zqq lt6; dsimp only; omega)
 ·exact Tot.inr trivial
theorem Zay3 (a0 : (List Zk)) (a1 : (List Zk)) (oa0 : (SzL 560 Za7) a0) (oa1 : (SzL 560 Za7) a1) : Tot (Z2y a0 a1) (fun r => True) := by
 unfold Z2y
 refine Tot.fin (Inv := Z09) (μ := Zqq) (m := (1000000, 0, 0, 0, 0, 0)) ?_ ?_
 ·have lb_a0 := oa0.1
  have lb_a1 := oa1.1
  unfold Z5k
  have q1 := oa0.1
  have q2 := oa1.1
  refine Tot.ine (fun h3 => ?_) (fun h3 => ?_)
  ·exact Tot.inr trivial
  ·exact Tot.inl ⟨oa0, oa1, (by omega), (by omega)⟩ (by unfold Zqq lt6; dsimp only; omega)
 ·intro s hs
  cases s with
  | L0 v0 v1 v5 => exact Zaon v0 v1 v5 hs
abbrev Zaej : Zlw → Prop
 | .L0 E0 E1 v5 => (Zdd E0) ∧ (Zdd E1) ∧ (0 ≤ v5) ∧ (E0.Specs.length = E1.Specs.length)
abbrev Zzm : Zlw → M6
 | .L0 E0 E1 v5 => (1, ((E0.Specs.length : Int) - v5).toNat, 1000000, 0, 0, 0)
theorem Za3v (E0 : Zs) (E1 : Zs) (v5 : Int) (h : Zaej (.L0 E0 E1 v5)) : Tot (Z62 E0 E1 v5) (Nx Zaej Zzm (Zzm (.L0 E0 E1 v5)) (fun r => True)) := by
 obtain ⟨ob30000000, ob30000001, cv5, i0⟩ := h
 unfold Z62
 have q1 := ob30000000.2.2.2.1.1
 refine Tot.dif (fun h2 => ?_) (fun h2 => ?_)
 ·refine Tot.bind (Tot.idx (by omega) (by omega)) (fun x3 h4 => ?_)
  have oh4 : Zpb x3 := ob30000000.2.2.2.1.2 x3 h4.1
  refine Tot.bind (Tot.idx (by omega) (by omega)) (fun x5 h6 => ?_)
  have oh6 : Zpb x5 := ob30000001.2.2.2.1.2 x5 h6.1
  refine Tot.not (fun h7 => ?_) (fun h7 => ?_)
  ·exact Tot.inr trivial
  ·have q8 := Za3 (v5 + 1)
   have q9 := Za4 (v5 + 1)
   exact Tot.inl ⟨ob30000000, ob30000001, (by omega), (by omega)⟩ (by unfold Zzm lt6; dsimp only; omega)
 ·refine Tot.ieq (fun h10 => ?_) (fun h10 => ?_)
  ·refine Tot.bif (fun h11 => ?_) (fun h11 => ?_)
   ·refine Tot.bind (Zaei E0.Mods E1.Mods ob30000000.2.1 ob30000001.2.1) (fun x12 h13 => ?_)
    refine Tot.bif (fun h14 => ?_) (fun h14 => ?_)
    ·refine Tot.bif (fun h15 => ?_) (fun h15 => ?_)
     ·refine Tot.bif (fun h16 => ?_) (fun h16 => ?_)
      ·refine Tot.bif (fun h17 => ?_) (fun h17 => ?_)
       ·refine Tot.bif (fun h18 => ?_) (fun h18 => ?_)
        ·refine Tot.bind (Zay3 E0.Effects E1.Effects ob30000000.2.2.2.2.1 ob30000001.2.2.2.2.1) (fun x19 h20 => ?_)
         refine Tot.bif (fun h21 => ?_) (fun h21 => ?_)
         ·exact Tot.inr trivial
         ·exact Tot.inr trivial
        ·exact Tot.inr trivial
       ·exact Tot.inr trivial
      ·exact Tot.inr trivial
     ·exact Tot.inr trivial
    ·exact Tot.inr trivial
   ·exact Tot.inr trivial
  ·exact Tot.inr trivial
theorem Zbg4 (a0 : Zs) (a1 : Zs) (oa0 : Zdd a0) (oa1 : Zdd a1) : Tot (Zakx a0 a1) (fun r => True) := by
 unfold Zakx
 refine Tot.fin (Inv := Zaej) (μ := Zzm) (m := (1000000, 0, 0, 0, 0, 0)) ?_ ?_
 ·unfold Zakw
  have q1 := oa0.2.2.2.1.1
  have q2 := oa1.2.2.2.1.1
  refine Tot.ine (fun h3 => ?_) (fun h3 => ?_)
  ·exact Tot.inr trivial
  ·exact Tot.inl ⟨oa0, oa1, (by omega), (by omega)⟩ (by unfold Zzm lt6; dsimp only; omega)
 ·intro s hs
  cases s with
  | L0 E0 E1 v5 => exact Za3v E0 E1 v5 hs
abbrev Zbg5 : Zo0 → Prop := fun _ => True
abbrev Zbki : Zo0 → M6 := fun _ => (0, 0, 0, 0, 0, 0)
theorem Zbg6 (a0 : Zd) (a1 : Zao) (oa0 : Zap a0) (oa1 : Zlf a1) : Tot (Zakz a0 a1) (fun r => True) := by
 unfold Zakz
 refine Tot.fin (Inv := Zbg5) (μ := Zbki) (m := (1000000, 0, 0, 0, 0, 0)) ?_ ?_
 ·unfold Zaky
  have q1 := Za3 (a0.NextId - 1)
  have q2 := Za4 (a0.NextId - 1)
  refine Tot.bind (Zix a1.Id 1 (IntKind.wrap .i64 (a0.NextId - 1))) (fun x3 h4 => ?_)
  refine Tot.not (fun h5 => ?_) (fun h5 => ?_)
  ·exact Tot.inr trivial
  ·refine Tot.bind (Zix a1.X 0 1000000) (fun x6 h7 => ?_)
   refine Tot.not (fun h8 => ?_) (fun h8 => ?_)
   ·exact Tot.inr trivial
   ·have q9 := oa1.2.1
    refine Tot.dif (fun h10 => ?_) (fun h10 => ?_)
    ·exact Tot.inr trivial
    ·refine Tot.bind (Zm1 a0 a1.Control oa0) (fun x11 h12 => ?_)
     refine Tot.not (fun h13 => ?_) (fun h13 => ?_)
     ·exact Tot.inr trivial
     ·refine Tot.bind (Zajl a0 a1.Id oa0) (fun x14 h15 => ?_)
      refine Tot.ieq (fun h16 => ?_) (fun h16 => ?_)
      ·refine Tot.bind (Zbg4 a1.Ability (⟨0, (⟨0, 0, 0, 0, 0, 0, 0, ([] : List UInt8), 0, 0, (⟨0, 0⟩ : Ze), (⟨0, 0⟩ : Ze), (⟨0, 0⟩ : Ze)⟩ : Zi), ([] : (List Zh)), (⟨(⟨0, 0, (⟨0, 0, 0, 0, 0⟩ : (A5 Int))⟩ : Zai), false, false, 0⟩ : Zii), false, (⟨0, 0, (⟨0, 0, 0, 0, 0, 0, 0, ([] : List UInt8), 0, 0, (⟨0, 0⟩ : Ze), (⟨0, 0⟩ : Ze), (⟨0, 0⟩ : Ze)⟩ : Zi)⟩ : Zdk), false, ([] : (List Zaj)), ([] : (List Zk)), (⟨0, 0, (⟨0, 0, 0, 0, 0, 0, 0, ([] : List UInt8), 0, 0, (⟨0, 0⟩ : Ze), (⟨0, 0⟩ : Ze), (⟨0, 0⟩ : Ze)⟩ : Zi), 0, 0, 0, 0⟩ : Za2)⟩ : Zs) oa1.1 ⟨(SzS.nil), SzL.nil, (SzS.nil), SzL.nil, SzL.nil, (SzS.nil)⟩) (fun x17 h18 => ?_)
       refine Tot.ieq (fun h19 => ?_) (fun h19 => ?_)
       ·refine Tot.bif (fun h20 => ?_) (fun h20 => ?_)
        ·refine Tot.ieq (fun h21 => ?_) (fun h21 => ?_)
         ·refine Tot.bif (fun h22 => ?_) (fun h22 => ?_)
          ·exact Tot.inr trivial
          ·refine Tot.bind (Zaav a1.Ability oa1.1) (fun x23 h24 => ?_)
           exact Tot.inr trivial
         ·exact Tot.inr trivial
        ·exact Tot.inr trivial
       ·exact Tot.inr trivial
      ·refine Tot.ieq (fun h25 => ?_) (fun h25 => ?_)
       ·refine Tot.not (fun h26 => ?_) (fun h26 => ?_)
        ·refine Tot.bind (Zaav a1.Ability oa1.1) (fun x27 h28 => ?_)
         exact Tot.inr trivial
        ·exact Tot.inr trivial
       ·exact Tot.inr trivial
 ·intro s
  cases s
abbrev Zamj : Zpm → Prop
 | .L0 v0 v3 => ((SzL 8 (fun _ => True)) v0) ∧ (0 ≤ v3) ∧ (1 ≤ v3)
abbrev Z76 : Zpm → M6
 | .L0 v0 v3 => (1, ((v0.length : Int) - v3).toNat, 1000000, 0, 0, 0)
theorem Zbb4 (v0 : (List Int)) (v3 : Int) (h : Zamj (.L0 v0 v3)) : Tot (Zafa v0 v3) (Nx Zamj Z76 (Z76 (.L0 v0 v3)) (fun r => True)) := by
 obtain ⟨ov0, cv3, i0⟩ := h
 have lb_v0 := ov0.1
 unfold Zafa
 have q1 := ov0.1
 refine Tot.dif (fun h2 => ?_) (fun h2 => ?_)
 ·have q3 := Za3 (v3 - 1)
  have q4 := Za4 (v3 - 1)
  refine Tot.bind (Tot.idx (by omega) (by omega)) (fun x5 h6 => ?_)
  refine Tot.bind (Tot.idx (by omega) (by omega)) (fun x7 h8 => ?_)
  refine Tot.dif (fun h9 => ?_) (fun h9 => ?_)
  ·exact Tot.inr trivial
  ·have q10 := Za3 (v3 + 1)
   have q11 := Za4 (v3 + 1)
   exact Tot.inl ⟨ov0, (by omega), (by omega)⟩ (by unfold Z76 lt6; dsimp only; omega)
 ·exact Tot.inr trivial
theorem Zbmo (a0 : (List Int)) (oa0 : (SzL 8 (fun _ => True)) a0) : Tot (Za0l a0) (fun r => True) := by
 unfold Za0l
 refine Tot.fin (Inv := Zamj) (μ := Z76) (m := (1000000, 0, 0, 0, 0, 0)) ?_ ?_
 ·have lb_a0 := oa0.1
  unfold Zawy
  exact Tot.inl ⟨oa0, (by omega), (by omega)⟩ (by unfold Z76 lt6; dsimp only; omega)
 ·intro s hs
  cases s with
  | L0 v0 v3 => exact Zbb4 v0 v3 hs
abbrev Zks : Zfq → Prop
 | .L0 E0 v3 => (Zap E0) ∧ (0 ≤ v3)
 | .L1 E0 v3 v4 => (Zap E0) ∧ (0 ≤ v4) ∧ (0 ≤ v3) ∧ (v3 < (E0.Stack.length : Int))
 | .L2 E0 v5 => (Zap E0) ∧ (0 ≤ v5)
 | .L3 E0 v7 => (Zap E0) ∧ (0 ≤ v7)
abbrev Zfc : Zfq → M6
 | .L0 E0 v3 => (5, ((E0.Stack.length : Int) - v3).toNat, 1000000, 0, 0, 0)
 | .L1 E0 v3 v4 => (5, ((E0.Stack.length : Int) - v3).toNat, 1, (v3 - v4).toNat, 1000000, 0)
 | .L2 E0 v5 => (3, ((E0.Waiting.length : Int) - v5).toNat, 1000000, 0, 0, 0)
 | .L3 E0 v7 => (1, ((E0.Conts.length : Int) - v7).toNat, 1000000, 0, 0, 0)
theorem Zay4 (E0 : Zd) (v3 : Int) (h : Zks (.L0 E0 v3)) : Tot (Z2z E0 v3) (Nx Zks Zfc (Zfc (.L0 E0 v3)) (fun r => True)) := by
 obtain ⟨ob30000000, cv3⟩ := h
 unfold Z2z
 have q1 := ob30000000.2.2.2.2.1.1
 refine Tot.dif (fun h2 => ?_) (fun h2 => ?_)
 ·refine Tot.bind (Tot.idx (by omega) (by omega)) (fun x3 h4 => ?_)
  have oh4 : Zlf x3 := ob30000000.2.2.2.2.1.2 x3 h4.1
  refine Tot.bind (Zbg6 E0 x3 ob30000000 oh4) (fun x5 h6 => ?_)
  refine Tot.not (fun h7 => ?_) (fun h7 => ?_)
  ·exact Tot.inr trivial
  ·exact Tot.inl ⟨ob30000000, (by omega), (by omega), (by omega)⟩ (by unfold Zfc lt6; dsimp only; omega)
 ·exact Tot.inl ⟨ob30000000, (by omega)⟩ (by unfold Zfc lt6; dsimp only; omega)
theorem Zay5 (E0 : Zd) (v3 : Int) (v4 : Int) (h : Zks (.L1 E0 v3 v4)) : Tot (Z20 E0 v3 v4) (Nx Zks Zfc (Zfc (.L1 E0 v3 v4)) (fun r => True)) := by
 obtain ⟨ob30000000, cv4, cv3, bd3⟩ := h
 unfold Z20
 have lx_0 := ob30000000.2.2.2.2.1.1
 refine Tot.dif (fun h1 => ?_) (fun h1 => ?_)
 ·refine Tot.bind (Tot.idx (by omega) (by omega)) (fun x2 h3 => ?_)
  have oh3 : Zlf x2 := ob30000000.2.2.2.2.1.2 x2 h3.1
  refine Tot.bind (Tot.idx (by omega) (by omega)) (fun x4 h5 => ?_)
  have oh5 : Zlf x4 := ob30000000.2.2.2.2.1.2 x4 h5.1
  refine Tot.ieq (fun h6 => ?_) (fun h6 => ?_)
  ·exact Tot.inr trivial
  ·have q7 := Za3 (v4 + 1)
   have q8 := Za4 (v4 + 1)
   exact Tot.inl ⟨ob30000000, (by omega), (by omega), (by omega)⟩ (by unfold Zfc lt6; dsimp only; omega)
 ·have q9 := Za3 (v3 + 1)
  have q10 := Za4 (v3 + 1)
  exact Tot.inl ⟨ob30000000, (by omega)⟩ (by unfold Zfc lt6; dsimp only; omega)
theorem Zay6 (E0 : Zd) (v5 : Int) (h : Zks (.L2 E0 v5)) : Tot (Z21 E0 v5) (Nx Zks Zfc (Zfc (.L2 E0 v5)) (fun r => True)) := by
 obtain ⟨ob30000000, cv5⟩ := h
 unfold Z21
 have q1 := ob30000000.2.2.2.2.2.1.1
 refine Tot.dif (fun h2 => ?_) (fun h2 => ?_)
 ·refine Tot.bind (Tot.idx (by omega) (by omega)) (fun x3 h4 => ?_)
  have oh4 : Zpf x3 := ob30000000.2.2.2.2.2.1.2 x3 h4.1
  refine Tot.bind (Zm1 E0 x3.Control ob30000000) (fun x5 h6 => ?_)
  refine Tot.not (fun h7 => ?_) (fun h7 => ?_)
  ·exact Tot.inr trivial
  ·refine Tot.ine (fun h8 => ?_) (fun h8 => ?_)
   ·exact Tot.inr trivial
   ·refine Tot.bind (Zaav x3.Ability oh4) (fun x9 h10 => ?_)
    refine Tot.not (fun h11 => ?_) (fun h11 => ?_)
    ·exact Tot.inr trivial
    ·have q12 := Za3 (v5 + 1)
     have q13 := Za4 (v5 + 1)
     exact Tot.inl ⟨ob30000000, (by omega)⟩ (by unfold Zfc lt6; dsimp only; omega)
 ·exact Tot.inl ⟨ob30000000, (by omega)⟩ (by unfold Zfc lt6; dsimp only; omega)
theorem Zay7 (E0 : Zd) (v7 : Int) (h : Zks (.L3 E0 v7)) : Tot (Z22 E0 v7) (Nx Zks Zfc (Zfc (.L3 E0 v7)) (fun r => True)) := by
 obtain ⟨ob30000000, cv7⟩ := h
 unfold Z22
 have q1 := ob30000000.2.2.2.2.2.2.1.1
 refine Tot.dif (fun h2 => ?_) (fun h2 => ?_)
 ·refine Tot.bind (Tot.idx (by omega) (by omega)) (fun x3 h4 => ?_)
  have oh4 : Zu8 x3 := ob30000000.2.2.2.2.2.2.1.2 x3 h4.1
  refine Tot.bind (Zm1 E0 x3.Control ob30000000) (fun x5 h6 => ?_)
  refine Tot.not (fun h7 => ?_) (fun h7 => ?_)
  ·exact Tot.inr trivial
  ·refine Tot.dif (fun h8 => ?_) (fun h8 => ?_)
   ·exact Tot.inr trivial
   ·refine Tot.bind (Zix x3.Until 1 2) (fun x9 h10 => ?_)
    refine Tot.not (fun h11 => ?_) (fun h11 => ?_)
    ·exact Tot.inr trivial
    ·refine Tot.bind (Zbmo x3.Objects oh4.1) (fun x12 h13 => ?_)
     refine Tot.not (fun h14 => ?_) (fun h14 => ?_)
     ·exact Tot.inr trivial
     ·refine Tot.bind (Z07 x3.Mods oh4.2) (fun x15 h16 => ?_)
      replace h16 : (x15.length ≤ 4611686018427387904) := h16
      have eh16_0 := h16
      try simp only [List.length_nil, List.length_cons, Nat.zero_add] at eh16_0
      refine Tot.bif (fun h17 => ?_) (fun h17 => ?_)
      ·exact Tot.inr trivial
      ·have q18 := Za3 (v7 + 1)
       have q19 := Za4 (v7 + 1)
       exact Tot.inl ⟨ob30000000, (by omega)⟩ (by unfold Zfc lt6; dsimp only; omega)
 ·exact Tot.inr trivial
theorem Z0j (a0 : Zd) (oa0 : Zap a0) : Tot (Zs3 a0) (fun r => True) := by
 unfold Zs3
 refine Tot.fin (Inv := Zks) (μ := Zfc) (m := (1000000, 0, 0, 0, 0, 0)) ?_ ?_
 ·unfold Zagx
  have q1 := oa0.2.2.2.2.1.1
  refine Tot.dif (fun h2 => ?_) (fun h2 => ?_)
  ·exact Tot.inr trivial
  ·have q3 := oa0.2.2.2.2.2.1.1
   refine Tot.dif (fun h4 => ?_) (fun h4 => ?_)
   ·exact Tot.inr trivial
   ·have q5 := oa0.2.2.2.2.2.2.1.1
    refine Tot.dif (fun h6 => ?_) (fun h6 => ?_)
    ·exact Tot.inr trivial
    ·exact Tot.inl ⟨oa0, (by omega)⟩ (by unfold Zfc lt6; dsimp only; omega)
 ·intro s hs
  cases s with
  | L0 E0 v3 => exact Zay4 E0 v3 hs
  | L1 E0 v3 v4 => exact Zay5 E0 v3 v4 hs
  | L2 E0 v5 => exact Zay6 E0 v5 hs
  | L3 E0 v7 => exact Zay7 E0 v7 hs
abbrev Zamk : Zmv → Prop
 | .L0 v0 E0 v5 => ((SzL 176 Zb9) v0) ∧ (Zap E0) ∧ (0 ≤ v5)
abbrev Z77 : Zmv → M6
 | .L0 v0 E0 v5 => (1, ((E0.Extra.length : Int) - v5).toNat, 1000000, 0, 0, 0)
theorem Zbb5 (v0 : (List Zw)) (E0 : Zd) (v5 : Int) (h : Zamk (.L0 v0 E0 v5)) : Tot (Z10 v0 E0 v5) (Nx Zamk Z77 (Z77 (.L0 v0 E0 v5)) (fun r => True)) := by
 obtain ⟨ov0, ob30000000, cv5⟩ := h
 have lb_v0 := ov0.1
 unfold Z10
 have q1 := ob30000000.2.2.2.2.2.2.2.1
 refine Tot.dif (fun h2 => ?_) (fun h2 => ?_)
 ·refine Tot.bind (Tot.idx (by omega) (by omega)) (fun x3 h4 => ?_)
  refine Tot.bind (Zm1 E0 x3 ob30000000) (fun x5 h6 => ?_)
  refine Tot.not (fun h7 => ?_) (fun h7 => ?_)
  ·exact Tot.inr trivial
  ·have q8 := Za3 (v5 + 1)
   have q9 := Za4 (v5 + 1)
   exact Tot.inl ⟨ov0, ob30000000, (by omega)⟩ (by unfold Z77 lt6; dsimp only; omega)
 ·refine Tot.ieq (fun h10 => ?_) (fun h10 => ?_)
  ·refine Tot.bind (Zm1 E0 E0.Winner ob30000000) (fun x11 h12 => ?_)
   refine Tot.not (fun h13 => ?_) (fun h13 => ?_)
   ·exact Tot.inr trivial
   ·refine Tot.ine (fun h14 => ?_) (fun h14 => ?_)
    ·refine Tot.ine (fun h15 => ?_) (fun h15 => ?_)
     ·exact Tot.inr trivial
     ·refine Tot.bind (Zvz v0 E0 ov0 ob30000000) (fun x16 h17 => ?_)
      refine Tot.bif (fun h18 => ?_) (fun h18 => ?_)
      ·refine Tot.bind (Z0j E0 ob30000000) (fun x19 h20 => ?_)
       exact Tot.inr trivial
      ·exact Tot.inr trivial
    ·refine Tot.bind (Zvz v0 E0 ov0 ob30000000) (fun x21 h22 => ?_)
     refine Tot.bif (fun h23 => ?_) (fun h23 => ?_)
     ·refine Tot.bind (Z0j E0 ob30000000) (fun x24 h25 => ?_)
      exact Tot.inr trivial
     ·exact Tot.inr trivial
  ·refine Tot.ine (fun h26 => ?_) (fun h26 => ?_)
   ·refine Tot.ine (fun h27 => ?_) (fun h27 => ?_)
    ·exact Tot.inr trivial
    ·refine Tot.bind (Zvz v0 E0 ov0 ob30000000) (fun x28 h29 => ?_)
     refine Tot.bif (fun h30 => ?_) (fun h30 => ?_)
     ·refine Tot.bind (Z0j E0 ob30000000) (fun x31 h32 => ?_)
      exact Tot.inr trivial
     ·exact Tot.inr trivial
   ·refine Tot.bind (Zvz v0 E0 ov0 ob30000000) (fun x33 h34 => ?_)
    refine Tot.bif (fun h35 => ?_) (fun h35 => ?_)
    ·refine Tot.bind (Z0j E0 ob30000000) (fun x36 h37 => ?_)
     exact Tot.inr trivial
    ·exact Tot.inr trivial
theorem Zbmp (a0 : (List Zw)) (a1 : Zd) (oa0 : (SzL 176 Zb9) a0) (oa1 : Zap a1) : Tot (Z7r a0 a1) (fun r => True) := by
 unfold Z7r
 refine Tot.fin (Inv := Zamk) (μ := Z77) (m := (1000000, 0, 0, 0, 0, 0)) ?_ ?_
 ·have lb_a0 := oa0.1
  unfold Zak0
  refine Tot.bind (Zix a1.NextId 1 1000000) (fun x1 h2 => ?_)
  refine Tot.not (fun h3 => ?_) (fun h3 => ?_)
  ·exact Tot.inr trivial
  ·refine Tot.bind (Zix a1.NextStamp 1 1000000) (fun x4 h5 => ?_)
   refine Tot.not (fun h6 => ?_) (fun h6 => ?_)
   ·exact Tot.inr trivial
   ·refine Tot.bind (Zix a1.Turn 0 500) (fun x7 h8 => ?_)
    refine Tot.not (fun h9 => ?_) (fun h9 => ?_)
    ·exact Tot.inr trivial
    ·refine Tot.bind (Zix a1.Step 0 10) (fun x10 h11 => ?_)
     refine Tot.not (fun h12 => ?_) (fun h12 => ?_)
     ·exact Tot.inr trivial
     ·have q13 := oa1.2.1.1
      refine Tot.dif (fun h14 => ?_) (fun h14 => ?_)
      ·exact Tot.inr trivial
      ·refine Tot.bind (Za3u a1 oa1) (fun x15 h16 => ?_)
       refine Tot.not (fun h17 => ?_) (fun h17 => ?_)
       ·exact Tot.inr trivial
       ·refine Tot.bind (Zm1 a1 a1.Active oa1) (fun x18 h19 => ?_)
        refine Tot.not (fun h20 => ?_) (fun h20 => ?_)
        ·exact Tot.inr trivial
        ·refine Tot.bind (Zm1 a1 a1.Priority oa1) (fun x21 h22 => ?_)
         refine Tot.not (fun h23 => ?_) (fun h23 => ?_)
         ·exact Tot.inr trivial
         ·have q24 := oa1.1.1
          refine Tot.bind (Zix a1.Passes 0 (a1.Players.length : Int)) (fun x25 h26 => ?_)
          refine Tot.not (fun h27 => ?_) (fun h27 => ?_)
          ·exact Tot.inr trivial
          ·have q28 := oa1.2.2.2.2.2.2.2.1
           refine Tot.dif (fun h29 => ?_) (fun h29 => ?_)
           ·exact Tot.inr trivial
           ·refine Tot.bind (Zix a1.Over 0 2) (fun x30 h31 => ?_)
            refine Tot.not (fun h32 => ?_) (fun h32 => ?_)
            ·exact Tot.inr trivial
            ·exact Tot.inl ⟨oa0, oa1, (by omega)⟩ (by unfold Z77 lt6; dsimp only; omega)
 ·intro s hs
  cases s with
  | L0 v0 E0 v5 => exact Zbb5 v0 E0 v5 hs
abbrev Z9y : Zkm → Prop
 | .L0 v0 E0 v5 => ((SzL 176 Zb9) v0) ∧ (Zap E0) ∧ (0 ≤ v5)
abbrev Zxt : Zkm → M6
 | .L0 v0 E0 v5 => (1, ((E0.Players.length : Int) - v5).toNat, 1000000, 0, 0, 0)
theorem Zay8 (v0 : (List Zw)) (E0 : Zd) (v5 : Int) (h : Z9y (.L0 v0 E0 v5)) : Tot (Zrr v0 E0 v5) (Nx Z9y Zxt (Zxt (.L0 v0 E0 v5)) (fun r => True)) := by
 obtain ⟨ov0, ob30000000, cv5⟩ := h
 have lb_v0 := ov0.1
 unfold Zrr
 have q1 := ob30000000.1.1
 refine Tot.dif (fun h2 => ?_) (fun h2 => ?_)
 ·refine Tot.bind (Tot.idx (by omega) (by omega)) (fun x3 h4 => ?_)
  have oh4 : Zmk x3 := ob30000000.1.2 x3 h4.1
  have q5 := oh4.1.1
  have q6 := oh4.2.1.1
  have q7 := Za3 ((x3.Library.length : Int) + (x3.Hand.length : Int))
  have q8 := Za4 ((x3.Library.length : Int) + (x3.Hand.length : Int))
  have q9 := oh4.2.2.1
  have q10 := Za3 ((IntKind.wrap .i64 ((x3.Library.length : Int) + (x3.Hand.length : Int))) + (x3.Graveyard.length : Int))
  have q11 := Za4 ((IntKind.wrap .i64 ((x3.Library.length : Int) + (x3.Hand.length : Int))) + (x3.Graveyard.length : Int))
  refine Tot.dif (fun h12 => ?_) (fun h12 => ?_)
  ·exact Tot.inr trivial
  ·have q13 := Za3 (v5 + 1)
   have q14 := Za4 (v5 + 1)
   exact Tot.inl ⟨ov0, ob30000000, (by omega)⟩ (by unfold Zxt lt6; dsimp only; omega)
 ·refine Tot.bind (Zbbv v0 ov0) (fun x15 h16 => ?_)
  refine Tot.ieq (fun h17 => ?_) (fun h17 => ?_)
  ·refine Tot.bind (Zbmp v0 E0 ov0 ob30000000) (fun x18 h19 => ?_)
   exact Tot.inr trivial
  ·exact Tot.inr trivial
theorem Zbb6 (a0 : (List Zw)) (a1 : Zd) (oa0 : (SzL 176 Zb9) a0) (oa1 : Zap a1) : Tot (Z7s a0 a1) (fun r => True) := by
 unfold Z7s
 refine Tot.fin (Inv := Z9y) (μ := Zxt) (m := (1000000, 0, 0, 0, 0, 0)) ?_ ?_
 ·have lb_a0 := oa0.1
  unfold Z63
  have q1 := oa0.1
  refine Tot.dif (fun h2 => ?_) (fun h2 => ?_)
  ·exact Tot.inr trivial
  ·have q3 := oa1.1.1
   refine Tot.dif (fun h4 => ?_) (fun h4 => ?_)
   ·exact Tot.inr trivial
   ·have q5 := oa1.2.1.1
    refine Tot.dif (fun h6 => ?_) (fun h6 => ?_)
    ·exact Tot.inr trivial
    ·have q7 := oa1.2.2.1.1
     refine Tot.dif (fun h8 => ?_) (fun h8 => ?_)
     ·exact Tot.inr trivial
     ·have q9 := oa1.2.2.2.1.1
      refine Tot.dif (fun h10 => ?_) (fun h10 => ?_)
      ·exact Tot.inr trivial
      ·have q11 := oa1.2.2.2.2.1.1
       refine Tot.dif (fun h12 => ?_) (fun h12 => ?_)
       ·exact Tot.inr trivial
       ·have q13 := oa1.2.2.2.2.2.1.1
        refine Tot.dif (fun h14 => ?_) (fun h14 => ?_)
        ·exact Tot.inr trivial
        ·have q15 := oa1.2.2.2.2.2.2.1.1
         refine Tot.dif (fun h16 => ?_) (fun h16 => ?_)
         ·exact Tot.inr trivial
         ·have q17 := oa1.2.2.2.2.2.2.2.1
          refine Tot.dif (fun h18 => ?_) (fun h18 => ?_)
          ·exact Tot.inr trivial
          ·exact Tot.inl ⟨oa0, oa1, (by omega)⟩ (by unfold Zxt lt6; dsimp only; omega)
 ·intro s hs
  cases s with
  | L0 v0 E0 v5 => exact Zay8 v0 E0 v5 hs
abbrev Zbkj : Zqe → Prop := fun _ => True
abbrev Zbmq : Zqe → M6 := fun _ => (0, 0, 0, 0, 0, 0)
theorem Zbkk (a0 : Zab) (oa0 : Znk a0) : Tot (Zaaz a0) (fun r => True) := by
 unfold Zaaz
 refine Tot.fin (Inv := Zbkj) (μ := Zbmq) (m := (1000000, 0, 0, 0, 0, 0)) ?_ ?_
 ·unfold Zafb
  refine Tot.bind (Zbb6 a0.Cards a0.State oa0.1 oa0.2.1) (fun x1 h2 => ?_)
  refine Tot.bif (fun h3 => ?_) (fun h3 => ?_)
  ·have q4 := oa0.2.2.2.1.1
   exact Tot.inr trivial
  ·exact Tot.inr trivial
 ·intro s
  cases s
end Go.PW
