import Derived.Test.YtnoofnejcoadfaaGreatDoorQX
set_option linter.all false
set_option maxRecDepth 100000
namespace Go.PW
def Za2y : Zxd → Prop
 | .L0 v0 E0 v5 => ((SzL 176 Zad) v0) ∧ (Zq E0) ∧ (0 ≤ v5)
def Zab4 : Zxd → M6
 | .L0 v0 E0 v5 => (1, ((E0.Extra.length : Int) - v5).toNat, 1000000, 0, 0, 0)
theorem Za2z (a0 : (List Zl)) (a1 : Zb) (oa0 : (SzL 176 Zad) a0) (oa1 : Zq a1) : Tot (Zawq a0 a1) (fun r => True) := by
 unfold Zawq
 refine tX (Inv := Za2y) (μ := Zab4) (m := (1000000, 0, 0, 0, 0, 0)) ?_ ?_
 ·have lb_a0 := oa0.1
  dsimp only [Zawo, LT.den]
  refine tB (Zdf a1.NextId 1 1000000) (fun x1 h2 => ?_)
  have eh2_0 := h2
  refine tO (fun h3 => ?_) (fun h3 => ?_)
  ·exact tR trivial
  ·refine tB (Zdf a1.NextStamp 1 1000000) (fun x4 h5 => ?_)
   have eh5_0 := h5
   refine tO (fun h6 => ?_) (fun h6 => ?_)
   ·exact tR trivial
   ·refine tB (Zdf a1.Turn 0 500) (fun x7 h8 => ?_)
    have eh8_0 := h8
    refine tO (fun h9 => ?_) (fun h9 => ?_)
    ·exact tR trivial
    ·refine tB (Zdf a1.Step 0 10) (fun x10 h11 => ?_)
     have eh11_0 := h11
     refine tO (fun h12 => ?_) (fun h12 => ?_)
     ·exact tR trivial
     ·have q13 := oa1.2.1.1
      refine tD (fun h14 => ?_) (fun h14 => ?_)
      ·exact tR trivial
      ·refine tB (Zamu a1 oa1) (fun x15 h16 => ?_)
       refine tO (fun h17 => ?_) (fun h17 => ?_)
       ·exact tR trivial
       ·refine tB (Zfd a1 a1.Active oa1) (fun x18 h19 => ?_)
        have eh19_0 := h19
        refine tO (fun h20 => ?_) (fun h20 => ?_)
        ·exact tR trivial
        ·refine tB (Zfd a1 a1.Priority oa1) (fun x21 h22 => ?_)
         have eh22_0 := h22
         refine tO (fun h23 => ?_) (fun h23 => ?_)
         ·exact tR trivial
         ·have q24 := oa1.1.1
          refine tB (Zdf a1.Passes 0 (a1.Players.length : Int)) (fun x25 h26 => ?_)
          have eh26_0 := h26
          refine tO (fun h27 => ?_) (fun h27 => ?_)
          ·exact tR trivial
          ·have q28 := oa1.2.2.2.2.2.2.2.1
           refine tD (fun h29 => ?_) (fun h29 => ?_)
           ·exact tR trivial
           ·refine tB (Zdf a1.Over 0 2) (fun x30 h31 => ?_)
            have eh31_0 := h31
            refine tO (fun h32 => ?_) (fun h32 => ?_)
            ·exact tR trivial
            ·exact tL ⟨oa0, oa1, cl⟩ (by unfold Zab4 lt6; dsimp only; omega)
 ·intro s hs
  cases s with
  | L0 v0 E0 v5 =>
   obtain ⟨ov0, O0, cv5⟩ := hs
   have lb_v0 := ov0.1
   show Tot (Z91 v0 E0 v5).den _
   dsimp only [Z91, LT.den]
   have q1 := O0.2.2.2.2.2.2.2.1
   refine tD (fun h2 => ?_) (fun h2 => ?_)
   ·refine tB (tI (by omega) (by omega)) (fun x3 h4 => ?_)
    refine tB (Zfd E0 x3 O0) (fun x5 h6 => ?_)
    have eh6_0 := h6
    refine tO (fun h7 => ?_) (fun h7 => ?_)
    ·exact tR trivial
    ·refine qw (v5 + 1) fun q8 q9 => ?_
     exact tL ⟨ov0, O0, cl⟩ (by unfold Zab4 lt6; dsimp only; omega)
   ·refine tE (fun h10 => ?_) (fun h10 => ?_)
    ·refine tB (Zfd E0 E0.Winner O0) (fun x11 h12 => ?_)
     have eh12_0 := h12
     refine tO (fun h13 => ?_) (fun h13 => ?_)
     ·exact tR trivial
     ·refine tN (fun h14 => ?_) (fun h14 => ?_)
      ·refine tN (fun h15 => ?_) (fun h15 => ?_)
       ·exact tR trivial
       ·refine tB (Zkf v0 E0 ov0 O0) (fun x16 h17 => ?_)
        refine tF (fun h18 => ?_) (fun h18 => ?_)
        ·refine tB (Zni E0 O0) (fun x19 h20 => ?_)
         exact tR trivial
        ·exact tR trivial
      ·refine tB (Zkf v0 E0 ov0 O0) (fun x21 h22 => ?_)
       refine tF (fun h23 => ?_) (fun h23 => ?_)
       ·refine tB (Zni E0 O0) (fun x24 h25 => ?_)
        exact tR trivial
       ·exact tR trivial
    ·refine tN (fun h26 => ?_) (fun h26 => ?_)
     ·refine tN (fun h27 => ?_) (fun h27 => ?_)
      ·exact tR trivial
      ·refine tB (Zkf v0 E0 ov0 O0) (fun x28 h29 => ?_)
       refine tF (fun h30 => ?_) (fun h30 => ?_)
       ·refine tB (Zni E0 O0) (fun x31 h32 => ?_)
        exact tR trivial
       ·exact tR trivial
     ·refine tB (Zkf v0 E0 ov0 O0) (fun x33 h34 => ?_)
      refine tF (fun h35 => ?_) (fun h35 => ?_)
      ·refine tB (Zni E0 O0) (fun x36 h37 => ?_)
       exact tR trivial
      ·exact tR trivial
abbrev Zapz (a0 : (List Zl)) (a1 : Zb) (r : Bool) : Prop := (r = true → a1.Objects.length ≤ 60 ∧ a1.Conts.length ≤ 8 ∧ a1.Players.length ≤ 4 ∧ ∀ c, c ∈ a0 → c.Abilities.length ≤ 8)
def Zasv (a0 : (List Zl)) (a1 : Zb) : Zmp → Prop
 | .L0 v0 E0 v5 => (v0 = a0) ∧ (E0 = a1) ∧ ((SzL 176 Zad) v0) ∧ (Zq E0) ∧ (0 ≤ v5) ∧ (E0.Objects.length ≤ 60) ∧ (E0.Conts.length ≤ 8) ∧ (E0.Players.length ≤ 4)
def Zys : Zmp → M6
 | .L0 v0 E0 v5 => (1, ((E0.Players.length : Int) - v5).toNat, 1000000, 0, 0, 0)
theorem Znj (a0 : (List Zl)) (a1 : Zb) (oa0 : (SzL 176 Zad) a0) (oa1 : Zq a1) : Tot (Z92 a0 a1) (Zapz a0 a1) := by
 unfold Z92
 refine tX (Inv := (Zasv a0 a1)) (μ := Zys) (m := (1000000, 0, 0, 0, 0, 0)) ?_ ?_
 ·have lb_a0 := oa0.1
  dsimp only [Zaem, LT.den]
  have q1 := oa0.1
  refine tD (fun h2 => ?_) (fun h2 => ?_)
  ·exact tR Zup
  ·have q3 := oa1.1.1
   refine tD (fun h4 => ?_) (fun h4 => ?_)
   ·exact tR Zup
   ·have q5 := oa1.2.1.1
    refine tD (fun h6 => ?_) (fun h6 => ?_)
    ·exact tR Zup
    ·have q7 := oa1.2.2.1.1
     refine tD (fun h8 => ?_) (fun h8 => ?_)
     ·exact tR Zup
     ·have q9 := oa1.2.2.2.1.1
      refine tD (fun h10 => ?_) (fun h10 => ?_)
      ·exact tR Zup
      ·have q11 := oa1.2.2.2.2.1.1
       refine tD (fun h12 => ?_) (fun h12 => ?_)
       ·exact tR Zup
       ·have q13 := oa1.2.2.2.2.2.1.1
        refine tD (fun h14 => ?_) (fun h14 => ?_)
        ·exact tR Zup
        ·have q15 := oa1.2.2.2.2.2.2.1.1
         refine tD (fun h16 => ?_) (fun h16 => ?_)
         ·exact tR Zup
         ·have q17 := oa1.2.2.2.2.2.2.2.1
          refine tD (fun h18 => ?_) (fun h18 => ?_)
          ·exact tR Zup
          ·exact tL ⟨rfl, rfl, oa0, oa1, cl, cl, cl, cl⟩ (by unfold Zys lt6; dsimp only; omega)
 ·intro s hs
  cases s with
  | L0 v0 E0 v5 =>
   obtain ⟨al0, al1, ov0, O0, cv5, i0, i1, i2⟩ := hs
   have lb_v0 := ov0.1
   subst al0
   subst al1
   show Tot (Zxe v0 E0 v5).den _
   dsimp only [Zxe, LT.den]
   have q1 := O0.1.1
   refine tD (fun h2 => ?_) (fun h2 => ?_)
   ·refine tB (tI (by omega) (by omega)) (fun x3 h4 => ?_)
    have oh4 : Zbs x3 := O0.1.2 x3 h4.1
    have q5 := oh4.1.1
    have q6 := oh4.2.1.1
    refine qw ((x3.Library.length : Int) + (x3.Hand.length : Int)) fun q7 q8 => ?_
    have q9 := oh4.2.2.1
    refine qw ((IntKind.wrap .i64 ((x3.Library.length : Int) + (x3.Hand.length : Int))) + (x3.Graveyard.length : Int)) fun q10 q11 => ?_
    refine tD (fun h12 => ?_) (fun h12 => ?_)
    ·exact tR Zup
    ·refine qw (v5 + 1) fun q13 q14 => ?_
     exact tL ⟨rfl, rfl, ov0, O0, cl, cl, cl, cl⟩ (by unfold Zys lt6; dsimp only; omega)
   ·refine tB (Zasn v0 ov0) (fun x15 h16 => ?_)
    have eh16_0 := h16
    refine tE (fun h17 => ?_) (fun h17 => ?_)
    ·refine tB (Za2z v0 E0 ov0 O0) (fun x18 h19 => ?_)
     exact tR Zup
    ·exact tR Zup
theorem Zamw (a0 : Zw) (oa0 : Zc8 a0) : Tot (Z1l a0) (fun r => (Zc8 r) ∧ (r = usV a0)) := by
 unfold Z1l
 refine tZ ?_
 dsimp only [Z6y, LT.den]
 refine tE (fun h1 => ?_) (fun h1 => ?_)
 ·exact tR ⟨(SzS.nil), (by unfold usV; grind)⟩
 ·refine tE (fun h2 => ?_) (fun h2 => ?_)
  ·exact tR ⟨oa0, (by unfold usV; grind)⟩
  ·refine tE (fun h3 => ?_) (fun h3 => ?_)
   ·exact tR ⟨oa0, (by unfold usV; grind)⟩
   ·exact tR ⟨oa0, (by unfold usV; grind)⟩
theorem Zasw (a0 : Ze) (oa0 : Zan a0) : Tot (Zz1 a0) (fun r => r = Z5q a0) := ⟨_, Zabf a0, rfl⟩
theorem Zah6 (a0 : Int) : Tot (Zxk a0) (fun r => (r = [] ↔ ¬ (0 ≤ a0 ∧ a0 ≤ 2))) := by
 unfold Zxk
 refine tZ ?_
 dsimp only [Z3e, LT.den]
 refine tD (fun h1 => ?_) (fun h1 => ?_)
 ·exact tR tk15
 ·refine tD (fun h2 => ?_) (fun h2 => ?_)
  ·exact tR tk15
  ·refine tB (tI (by omega) (by have e : (A3.list (⟨[112, 108, 117, 115], [109, 105, 110, 117, 115], [99, 104, 97, 114, 103, 101]⟩ : A3 (List UInt8))).length = 3 := rfl; omega)) (fun x3 h4 => ?_)
   have mh4 := h4.1
   exact tR tk15
theorem Zasx (a0 : Zw) (oa0 : Zc8 a0) : Tot (Z96 a0) (fun r => (r = amV a0)) := by
 unfold Z96
 refine tZ ?_
 dsimp only [Zaep, LT.den]
 refine tD (fun h1 => ?_) (fun h1 => ?_)
 ·exact tR Ze5
 ·refine tD (fun h2 => ?_) (fun h2 => ?_)
  ·exact tR Ze5
  ·refine tB (Zamw a0 oa0) (fun x3 h4 => ?_)
   have eh4_1 := h4.2
   refine tO (fun h5 => ?_) (fun h5 => ?_)
   ·exact tR Ze5
   ·refine tE (fun h6 => ?_) (fun h6 => ?_)
    ·refine tD (fun h7 => ?_) (fun h7 => ?_)
     ·exact tR Ze5
     ·exact tR Ze5
    ·refine tE (fun h8 => ?_) (fun h8 => ?_)
     ·refine tD (fun h9 => ?_) (fun h9 => ?_)
      ·refine tD (fun h10 => ?_) (fun h10 => ?_)
       ·refine tB (Zasw a0.Filter oa0) (fun x11 h12 => ?_)
        have eh12_0 := h12
        exact tR Ze5
       ·exact tR Ze5
      ·exact tR Ze5
     ·refine tE (fun h13 => ?_) (fun h13 => ?_)
      ·refine tB (Zah6 a0.Counter) (fun x14 h15 => ?_)
       have eh15_0 := h15
       exact tR Ze5
      ·exact tR Ze5
theorem Znk (a0 : Int) : Tot (Ztm a0) (fun r => (r = clV a0)) := by
 unfold Ztm
 refine tZ ?_
 dsimp only [Z1n, LT.den]
 exact tR (by rfl)
theorem Zazm (a0 : Int) (a1 : Int) : Tot (Z3h a0 a1) (fun r => (r = muV a0 a1)) := by
 unfold Z3h
 refine tZ ?_
 dsimp only [Z99, LT.den]
 refine tB (Znk a0) (fun x1 h2 => ?_)
 have eh2_0 := h2
 refine tB (Znk a1) (fun x3 h4 => ?_)
 have eh4_0 := h4
 refine qw (x1 * x3) fun q5 q6 => ?_
 refine tB (Znk (IntKind.wrap .i64 (x1 * x3))) (fun x7 h8 => ?_)
 have eh8_0 := h8
 exact tR (by unfold muV; grind)
theorem Za0i {x : Za} (h : Zt x) : x.Line.Subs.length ≤ 4611686018427387904 := by
 have : x.Line.Subs.length * 16 ≤ 140737488351232 := h.2.1.1
 omega
theorem Zax8 {s : Zb} {all : List Za} {you src : Int} {f : Ze} (h : Zq s) : SzL 8 (fun _ => True) (Zh7 s all you src f) := by
 have h1 : s.Objects.length * 128 ≤ 140737488351232 := h.2.1.1
 have h2 : (Zh7 s all you src f).length ≤ s.Objects.length := Zagc ..
 exact ⟨by omega, fun _ _ => trivial⟩
theorem Z38 (a0 : Zb) (a1 : List Za) (a2 a3 : Int) (a4 : Ze) (oa0 : Zq a0) (oa1 : (SzL 176 Zt) a1) (oa4 : Zan a4) : Tot (Zps a0 a1 a2 a3 a4) (fun r => ((SzL 8 (fun _ => True)) r) ∧ (r = Zh7 a0 a1 a2 a3 a4)) :=
 ⟨_, Za8h a0 a1 a2 a3 a4 oa0.2.1.1 fun t ht => Za0i (oa1.2 t ht), Zax8 oa0, rfl⟩
theorem Zy6 (a0 : Zf) (b0 : Int) : Tot (Zj6 a0 b0) (fun r => (r = (a0.Id == b0))) := by
 unfold Zj6
 refine tZ ?_
 dsimp only [Zoj, LT.den]
 exact tR (by rfl)
def Zeo (a0 : (List Zf)) (b0 : Int) : Zaw → Prop
 | .L0 v0 c0 v7 v8 => (v0 = a0) ∧ (c0 = b0) ∧ ((SzL 128 (fun _ => True)) v0) ∧ (0 ≤ v8) ∧ (v7 = (v0.length : Int)) ∧ (Z5v v0 c0 v8)
def Zcl : Zaw → M6
 | .L0 v0 c0 v7 v8 => (1, (v7 - v8).toNat, 1000000, 0, 0, 0)
theorem Zep (a0 : (List Zf)) (b0 : Int) (oa0 : (SzL 128 (fun _ => True)) a0) : Tot (Zbk a0 b0) (fun r => (r.1 = ixO a0 b0)) := by
 unfold Zbk
 refine tX (Inv := (Zeo a0 b0)) (μ := Zcl) (m := (1000000, 0, 0, 0, 0, 0)) ?_ ?_
 ·have lb_a0 := oa0.1
  dsimp only [Zcm, LT.den]
  have q1 := oa0.1
  exact tL ⟨rfl, rfl, oa0, cl, cl, tk22⟩ tk39
 ·intro s hs
  cases s with
  | L0 v0 c0 v7 v8 =>
   obtain ⟨al0, al1, ov0, cv8, i0, i1⟩ := hs
   have lb_v0 := ov0.1
   subst al0
   subst al1
   show Tot (Zbf v0 c0 v7 v8).den _
   dsimp only [Zbf, LT.den]
   refine tD (fun h1 => ?_) (fun h1 => ?_)
   ·refine tB (tI (by omega) (by omega)) (fun x2 h3 => ?_)
    have mh3 := h3.2
    refine tB (Zy6 x2 c0) (fun x4 h5 => ?_)
    have eh5_0 := h5
    refine tF (fun h6 => ?_) (fun h6 => ?_)
    ·exact tR tk16
    ·refine qw (v8 + 1) fun q7 q8 => ?_
     exact tL ⟨rfl, rfl, ov0, cl, cl, tk22⟩ tk39
   ·exact tR tk16
theorem Zyt (a0 : Zb) (a1 : (List Za)) (a2 : Int) (oa0 : Zq a0) (oa1 : (SzL 176 Zt) a1) : Tot (Zxq a0 a1 a2) (fun r => (Zt r.1) ∧ (r = (trV a1 (ixO a0.Objects a2), decide (0 ≤ ixO a0.Objects a2)))) := by
 unfold Zxq
 refine tZ ?_
 have lb_a1 := oa1.1
 dsimp only [Z3k, LT.den]
 refine tB (Zep a0.Objects a2 oa0.2.1) (fun x1 h2 => ?_)
 have eh2_0 := h2
 have lh2 := Zabj a0.Objects a2
 refine tD (fun h3 => ?_) (fun h3 => ?_)
 ·exact tR ⟨⟨(SzS.nil), SzL.nil, SzL.nil⟩, tk12⟩
 ·have q4 := oa1.1
  refine tD (fun h5 => ?_) (fun h5 => ?_)
  ·exact tR ⟨⟨(SzS.nil), SzL.nil, SzL.nil⟩, tk12⟩
  ·refine tB (tI (by omega) (by omega)) (fun x6 h7 => ?_)
   have oh7 : Zt x6 := oa1.2 x6 h7.1
   have mh7 := h7.2
   exact tR ⟨oh7, tk12⟩
theorem Z39 (a0 : Zf) (b0 : Int) : Tot (Zlx a0 b0) (fun r => (r = (a0.Id == b0))) := by
 unfold Zlx
 refine tZ ?_
 dsimp only [Zqq, LT.den]
 exact tR (by rfl)
def Ze2 (a0 : (List Zf)) (b0 : Int) : Zay → Prop
 | .L0 v0 c0 v7 v8 => (v0 = a0) ∧ (c0 = b0) ∧ ((SzL 128 (fun _ => True)) v0) ∧ (0 ≤ v8) ∧ (v7 = (v0.length : Int)) ∧ (Z5v v0 c0 v8)
def Zct : Zay → M6
 | .L0 v0 c0 v7 v8 => (1, (v7 - v8).toNat, 1000000, 0, 0, 0)
theorem Ze3 (a0 : (List Zf)) (b0 : Int) (oa0 : (SzL 128 (fun _ => True)) a0) : Tot (Zbm a0 b0) (fun r => (r.1 = ixO a0 b0)) := by
 unfold Zbm
 refine tX (Inv := (Ze2 a0 b0)) (μ := Zct) (m := (1000000, 0, 0, 0, 0, 0)) ?_ ?_
 ·have lb_a0 := oa0.1
  dsimp only [Zcv, LT.den]
  have q1 := oa0.1
  exact tL ⟨rfl, rfl, oa0, cl, cl, tk22⟩ tk42
 ·intro s hs
  cases s with
  | L0 v0 c0 v7 v8 =>
   obtain ⟨al0, al1, ov0, cv8, i0, i1⟩ := hs
   have lb_v0 := ov0.1
   subst al0
   subst al1
   show Tot (Zbi v0 c0 v7 v8).den _
   dsimp only [Zbi, LT.den]
   refine tD (fun h1 => ?_) (fun h1 => ?_)
   ·refine tB (tI (by omega) (by omega)) (fun x2 h3 => ?_)
    have mh3 := h3.2
    refine tB (Z39 x2 c0) (fun x4 h5 => ?_)
    have eh5_0 := h5
    refine tF (fun h6 => ?_) (fun h6 => ?_)
    ·exact tR tk16
    ·refine qw (v8 + 1) fun q7 q8 => ?_
     exact tL ⟨rfl, rfl, ov0, cl, cl, tk22⟩ tk42
   ·exact tR tk16
theorem Zap0 (a0 : Zb) (a1 : Int) (oa0 : Zq a0) : Tot (Z5d a0 a1) (fun r => (r = ixO a0.Objects a1)) := by
 unfold Z5d
 refine tZ ?_
 dsimp only [Zaac, LT.den]
 refine tB (Ze3 a0.Objects a1 oa0.2.1) (fun x1 h2 => ?_)
 have eh2_0 := h2
 exact tR (by assumption)
theorem Z7w (a0 : Zb) (a1 : Int) (oa0 : Zq a0) : Tot (Zaae a0 a1) (fun r => (r = fdV a0.Objects a1)) := by
 unfold Zaae
 refine tZ ?_
 dsimp only [Zaev, LT.den]
 refine tB (Zap0 a0 a1 oa0) (fun x1 h2 => ?_)
 have eh2_0 := h2
 have lh2 := Zabj a0.Objects a1
 refine tD (fun h3 => ?_) (fun h3 => ?_)
 ·exact tR tk27
 ·refine tB (tI (by omega) (by omega)) (fun x4 h5 => ?_)
  have mh5 := h5.2
  exact tR tk27
theorem Zasy (a0 : Zb) (a1 : (List Za)) (a2 : Zs) (a3 : Zw) (oa0 : Zq a0) (oa1 : (SzL 176 Zt) a1) (oa2 : Zbx a2) (oa3 : Zc8 a3) (h0 : amV a3 = true) (h1 : a3.Kind = 4 → 0 ≤ a3.Counter ∧ a3.Counter ≤ 2) : Tot (Zaag a0 a1 a2 a3) (fun r => (r = raV a0 a1 a2 a3)) := by
 unfold Zaag
 refine tZ ?_
 have lb_a1 := oa1.1
 dsimp only [Zaex, LT.den]
 refine tE (fun h1 => ?_) (fun h1 => ?_)
 ·exact tR Zsg
 ·refine tE (fun h2 => ?_) (fun h2 => ?_)
  ·exact tR Zsg
  ·refine tE (fun h3 => ?_) (fun h3 => ?_)
   ·exact tR Zsg
   ·refine tE (fun h4 => ?_) (fun h4 => ?_)
    ·refine tB (Z38 a0 a1 a2.You a2.Source a3.Filter oa0 oa1 oa3) (fun x5 h6 => ?_)
     have eh6_1 := h6.2
     have q7 := h6.1.1
     refine tB (Zazm a3.N (x5.length : Int)) (fun x8 h9 => ?_)
     have eh9_0 := h9
     exact tR Zsg
    ·refine tE (fun h10 => ?_) (fun h10 => ?_)
     ·refine tB (Zyt a0 a1 a2.Source oa0 oa1) (fun x11 h12 => ?_)
      have eh12_1 := h12.2
      exact tR Zsg
     ·refine tE (fun h13 => ?_) (fun h13 => ?_)
      ·refine tB (Z7w a0 a2.Source oa0) (fun x14 h15 => ?_)
       have eh15_0 := h15
       refine tB (tI (by omega) (by have e : (A3.list x14.1.Counters).length = 3 := rfl; omega)) (fun x16 h17 => ?_)
       have mh17 := h17.2
       exact tR Zsg
      ·refine tD (fun h18 => ?_) (fun h18 => ?_)
       ·exact tR Zsg
       ·have q19 := oa0.1.1
        refine tD (fun h20 => ?_) (fun h20 => ?_)
        ·exact tR Zsg
        ·refine tE (fun h21 => ?_) (fun h21 => ?_)
         ·refine tB (tI (by omega) (by omega)) (fun x22 h23 => ?_)
          have oh23 : Zbs x22 := oa0.1.2 x22 h23.1
          have mh23 := h23.2
          exact tR Zsg
         ·refine tB (tI (by omega) (by omega)) (fun x24 h25 => ?_)
          have oh25 : Zbs x24 := oa0.1.2 x24 h25.1
          have mh25 := h25.2
          have q26 := oh25.2.1.1
          exact tR Zsg
theorem Zey (a0 : Zb) (a1 : (List Za)) (a2 : Zs) (a3 : Zw) (oa0 : Zq a0) (oa1 : (SzL 176 Zt) a1) (oa2 : Zbx a2) (oa3 : Zc8 a3) : Tot (Zahf a0 a1 a2 a3) (fun r => (r = ofV a0 a1 a2 a3)) := by
 unfold Zahf
 refine tZ ?_
 have lb_a1 := oa1.1
 dsimp only [Zalt, LT.den]
 refine tB (Zasx a3 oa3) (fun x1 h2 => ?_)
 have eh2_0 := h2
 refine tO (fun h3 => ?_) (fun h3 => ?_)
 ·exact tR (by unfold ofV; grind)
 ·refine tB (Zasy a0 a1 a2 a3 oa0 oa1 oa2 oa3 (by grind) (by exact Za7k (by grind))) (fun x4 h5 => ?_)
  have eh5_0 := h5
  refine tB (Znk x4) (fun x6 h7 => ?_)
  have eh7_0 := h7
  exact tR (by unfold ofV; grind)
abbrev Zada (a0 : Zb) (r : (List Int)) : Prop := ((SzL 8 (fun _ => True)) r) ∧ (r.length ≤ a0.Players.length) ∧ (r = Zi7 a0.Players)
def Zah7 (a0 : Zb) : Zih → Prop
 | .L0 v3 v7 v8 v9 => ((SzL 8 (fun _ => True)) v3) ∧ ((SzL 152 Zbs) v7) ∧ (0 ≤ v9) ∧ (v8 = (v7.length : Int)) ∧ (v8 = (a0.Players.length : Int)) ∧ (v7 = a0.Players) ∧ (v3 = Zyf v7 v9) ∧ (v3.length ≤ v9.toNat) ∧ (v9 ≤ v8)
def Z0j : Zih → M6
 | .L0 v3 v7 v8 v9 => (1, (v8 - v9).toNat, 1000000, 0, 0, 0)
theorem Zah8 (a0 : Zb) (oa0 : Zq a0) : Tot (Zpu a0) (Zada a0) := by
 unfold Zpu
 refine tX (Inv := (Zah7 a0)) (μ := Z0j) (m := (1000000, 0, 0, 0, 0, 0)) ?_ ?_
 ·dsimp only [Z3n, LT.den]
  have q1 := oa0.1.1
  exact tL ⟨SzL.nil, oa0.1, cl, cl, cl, (by first | rfl | assumption), tk5, cl, cl⟩ tk61
 ·intro s hs
  cases s with
  | L0 v3 v7 v8 v9 =>
   obtain ⟨ov3, ov7, cv9, i0, i1, i2, i3, i4, i5⟩ := hs
   have lb_v3 := ov3.1
   have lb_v7 := ov7.1
   show Tot (Zpt v3 v7 v8 v9).den _
   dsimp only [Zpt, LT.den]
   refine tD (fun h1 => ?_) (fun h1 => ?_)
   ·refine tB (tI (by omega) (by omega)) (fun x2 h3 => ?_)
    have oh3 : Zbs x2 := ov7.2 x2 h3.1
    have mh3 := h3.2
    refine tO (fun h4 => ?_) (fun h4 => ?_)
    ·have q5 : (SzL 8 (fun _ => True)) ([v9] : (List Int)) := ⟨by simp only [List.length_cons, List.length_nil]; omega, fun _ _ => trivial⟩
     have q8 := ov3.1
     refine tB (tA Zdt (by decide)) (fun x6 h7 => ?_)
     have lh7 : x6.length = v3.length + 1 := by rw [h7, List.length_append]; rfl
     refine qw (v9 + 1) fun q9 q10 => ?_
     exact tL ⟨⟨lo, fun _ _ => trivial⟩, ov7, cl, cl, cl, (by first | rfl | assumption), tk5, cl, cl⟩ tk61
    ·refine qw (v9 + 1) fun q11 q12 => ?_
     exact tL ⟨ov3, ov7, cl, cl, cl, (by first | rfl | assumption), tk5, cl, cl⟩ tk61
   ·exact tR ⟨ov3, cl, (by rw [← ‹v7 = a0.Players›]; exact Za6m (by assumption) (by omega) (by omega))⟩
theorem Zt0 (a0 : Int) : Tot (Zq9 a0) (fun r => (r = false)) := by
 unfold Zq9
 refine tZ ?_
 dsimp only [Zxr, LT.den]
 exact tR (by simp)
theorem Z6b (a0 : Int) (a1 : Int) : Tot (Znx a0 a1) (fun r => ((r = -1 ∧ a0 < a1) ∨ (r = 1 ∧ a1 < a0) ∨ (r = 0 ∧ a0 = a1))) := by
 unfold Znx
 refine tZ ?_
 dsimp only [Ztn, LT.den]
 refine tB (Zt0 a0) (fun x1 h2 => ?_)
 have eh2_0 := h2
 refine tB (Zt0 a1) (fun x3 h4 => ?_)
 have eh4_0 := h4
 refine tF (fun h5 => ?_) (fun h5 => ?_)
 ·refine tF (fun h6 => ?_) (fun h6 => ?_)
  ·exact tR Zi8
  ·exact tR Zi8
 ·refine tF (fun h7 => ?_) (fun h7 => ?_)
  ·exact tR Zi8
  ·refine tD (fun h8 => ?_) (fun h8 => ?_)
   ·exact tR Zi8
   ·refine tD (fun h9 => ?_) (fun h9 => ?_)
    ·exact tR Zi8
    ·exact tR Zi8
abbrev Zvo (a0 : Zb) (a1 : Int) (r : (List Int)) : Prop := ((SzL 8 (fun _ => True)) r) ∧ (r.length ≤ 2 * a0.Players.length) ∧ (r = othV a0.Players a1)
def Zn5 (a0 : Zb) (a1 : Int) : Zgr → Prop
 | .L0 v1 E0 => (E0 = a0) ∧ (Zq E0) ∧ ((v1 = -1 ∧ (a1 < 0 ∨ a1 ≥ (E0.Players.length : Int))) ∨ (v1 = a1 ∧ 0 ≤ a1 ∧ a1 < (E0.Players.length : Int)))
 | .L1 v1 v5 v6 v19 v20 v21 => ((SzL 8 (fun _ => True)) v5) ∧ ((SzL 8 (fun _ => True)) v6) ∧ ((SzL 8 (fun _ => True)) v19) ∧ (0 ≤ v21) ∧ ((v1 = -1 ∧ (a1 < 0 ∨ a1 ≥ (a0.Players.length : Int))) ∨ (v1 = a1 ∧ 0 ≤ a1 ∧ a1 < (a0.Players.length : Int))) ∧ (a0.Players.length * 152 ≤ 140737488351232) ∧ (v20 ≤ (a0.Players.length : Int)) ∧ (v19 = Zi7 a0.Players) ∧ (v20 = (v19.length : Int)) ∧ (v5 = ((Zi7 a0.Players).take v21.toNat).filter fun x => decide (x < v1)) ∧ (v6 = ((Zi7 a0.Players).take v21.toNat).filter fun x => decide (v1 < x)) ∧ (v5.length ≤ v21.toNat) ∧ (v6.length ≤ v21.toNat) ∧ (v21 ≤ v20)
def Zkg : Zgr → M6
 | .L0 v1 E0 => (2, 0, 0, 0, 0, 0)
 | .L1 v1 v5 v6 v19 v20 v21 => (1, (v20 - v21).toNat, 1000000, 0, 0, 0)
theorem Zhi (a0 : Zb) (a1 : Int) (v1 : Int) (E0 : Zb) (h : (Zn5 a0 a1) (.L0 v1 E0)) : Tot (Zfx v1 E0).den (Nx (Zn5 a0 a1) Zkg (2, 0, 0, 0, 0, 0) (Zvo a0 a1)) := by
 obtain ⟨al0, O0, i0⟩ := h
 subst al0
 dsimp only [Zfx, LT.den]
 have lq := O0.1.1
 refine tB (Zah8 E0 O0) (fun x1 h2 => ?_)
 have eh2_1 := h2.2.1
 have eh2_2 := h2.2.2
 have q3 := h2.1.1
 exact tL ⟨SzL.nil, SzL.nil, h2.1, cl, cl, cl, cl, (by assumption), cl, tk4, tk4, cl, cl, cl⟩ tk62
theorem Zyu (a0 : Zb) (a1 : Int) (oa0 : Zq a0) : Tot (Zpw a0 a1) (Zvo a0 a1) := by
 unfold Zpw
 refine tX (Inv := (Zn5 a0 a1)) (μ := Zkg) (m := (1000000, 0, 0, 0, 0, 0)) ?_ ?_
 ·dsimp only [Z3p, LT.den]
  refine tD (fun h1 => ?_) (fun h1 => ?_)
  ·exact tJ (Zhi a0 a1 (-1) a0 ⟨rfl, oa0, cl⟩)
  ·have q2 := oa0.1.1
   refine tD (fun h3 => ?_) (fun h3 => ?_)
   ·exact tJ (Zhi a0 a1 (-1) a0 ⟨rfl, oa0, cl⟩)
   ·exact tJ (Zhi a0 a1 a1 a0 ⟨rfl, oa0, cl⟩)
 ·intro s hs
  cases s with
  | L0 v1 E0 => exact Zhi a0 a1 v1 E0 hs
  | L1 v1 v5 v6 v19 v20 v21 =>
   obtain ⟨ov5, ov6, ov19, cv21, i0, i1, i2, i3, i4, i5, i6, i7, i8, i9⟩ := hs
   have lb_v5 := ov5.1
   have lb_v6 := ov6.1
   have lb_v19 := ov19.1
   show Tot (Zpv v1 v5 v6 v19 v20 v21).den _
   dsimp only [Zpv, LT.den, Zkg]
   refine tD (fun h1 => ?_) (fun h1 => ?_)
   ·refine tB (tI (by omega) (by omega)) (fun x2 h3 => ?_)
    have mh3 := h3.2
    refine tB (Z6b x2 v1) (fun x4 h5 => ?_)
    have eh5_0 := h5
    refine tE (fun h6 => ?_) (fun h6 => ?_)
    ·have q7 : (SzL 8 (fun _ => True)) ([x2] : (List Int)) := ⟨by simp only [List.length_cons, List.length_nil]; omega, fun _ _ => trivial⟩
     have q10 := ov5.1
     refine tB (tA Zdt (by decide)) (fun x8 h9 => ?_)
     have lh9 : x8.length = v5.length + 1 := by rw [h9, List.length_append]; rfl
     refine qw (v21 + 1) fun q11 q12 => ?_
     exact tL ⟨⟨lo, fun _ _ => trivial⟩, ov6, ov19, cl, cl, cl, cl, (by assumption), cl, tk4, tk4, cl, cl, cl⟩ tk62
    ·refine tE (fun h13 => ?_) (fun h13 => ?_)
     ·have q14 : (SzL 8 (fun _ => True)) ([x2] : (List Int)) := ⟨by simp only [List.length_cons, List.length_nil]; omega, fun _ _ => trivial⟩
      have q17 := ov6.1
      refine tB (tA Zdt (by decide)) (fun x15 h16 => ?_)
      have lh16 : x15.length = v6.length + 1 := by rw [h16, List.length_append]; rfl
      refine qw (v21 + 1) fun q18 q19 => ?_
      exact tL ⟨ov5, ⟨lo, fun _ _ => trivial⟩, ov19, cl, cl, cl, cl, (by assumption), cl, tk4, tk4, cl, cl, cl⟩ tk62
     ·refine qw (v21 + 1) fun q20 q21 => ?_
      exact tL ⟨ov5, ov6, ov19, cl, cl, cl, cl, (by assumption), cl, tk4, tk4, cl, cl, cl⟩ tk62
   ·have q24 := ov6.1
    have q25 := ov5.1
    refine tB (tA Zn2 (by decide)) (fun x22 h23 => ?_)
    have lh23 : x22.length = v6.length + v5.length := by rw [h23, List.length_append]
    try simp only [List.length_cons, List.length_nil, Nat.zero_add] at lh23
    exact tR ⟨⟨lo, fun _ _ => trivial⟩, cl, (by exact Za8o (by assumption) (by assumption) (by assumption) (by assumption) (by grind))⟩
theorem Zyv (a0 : Zs) (a1 : Int) (oa0 : Zbx a0) : Tot (Zxu a0 a1) (fun r => (r = tgV a0.Targets a1)) := by
 unfold Zxu
 refine tZ ?_
 dsimp only [Z3r, LT.den]
 refine tD (fun h1 => ?_) (fun h1 => ?_)
 ·exact tR tk43
 ·have q2 := oa0.1
  refine tD (fun h3 => ?_) (fun h3 => ?_)
  ·exact tR tk43
  ·refine qw (a1 - 1) fun q4 q5 => ?_
   refine tB (tI (by omega) (by omega)) (fun x6 h7 => ?_)
   have mh7 := h7.2
   exact tR tk43
def Zgb (a0 : Zb) (a1 : (List Za)) (a2 : Zs) (a3 : Zak) : Zfy → Prop
 | .L0 v1 E0 E1 E2 v36 => (E0 = a0) ∧ (v1 = a1) ∧ (E1 = a2) ∧ (E2 = a3) ∧ ((SzL 176 Zt) v1) ∧ (Zq E0) ∧ (Zbx E1) ∧ (Zed E2) ∧ ((v36 = true ↔ (E2.Kind = 3 ∨ E2.Kind = 8)) ∧ E2.Kind ≠ 1 ∧ E2.Kind ≠ 5 ∧ E2.Kind ≠ 6)
 | .L1 v1 E0 E1 E2 v10 => (E0 = a0) ∧ (v1 = a1) ∧ (E1 = a3) ∧ ((SzL 176 Zt) v1) ∧ (Zq E0) ∧ (Zed E1) ∧ ((E1.Kind = 3 ∨ E1.Kind = 8) ∧ E1.Kind ≠ 1 ∧ E1.Kind ≠ 5 ∧ E1.Kind ≠ 6 ∧ (E2, v10) = tgV a2.Targets E1.N ∧ ¬ (v10 = true ∧ E2.Object = 0))
def Zn6 : Zfy → M6
 | .L0 v1 E0 E1 E2 v36 => (0, 0, 0, 0, 0, 0)
 | .L1 v1 E0 E1 E2 v10 => (0, 0, 0, 0, 0, 0)
theorem Zi9 (a0 : Zb) (a1 : (List Za)) (a2 : Zs) (a3 : Zak) (v1 : (List Za)) (E0 : Zb) (E1 : Zak) (E2 : Zaj) (v10 : Bool) (h : (Zgb a0 a1 a2 a3) (.L1 v1 E0 E1 E2 v10)) : Tot (Zg5 v1 E0 E1 E2 v10).den (Nx (Zgb a0 a1 a2 a3) Zn6 (0, 0, 0, 0, 0, 0) (fun r => ((SzL 8 (fun _ => True)) r) ∧ (r = tlV a0 a1 a2 a3))) := by
 obtain ⟨al0, al1, al2, ov1, O0, O1, i0⟩ := h
 have lb_v1 := ov1.1
 subst al0
 subst al1
 subst al2
 dsimp only [Zg5, LT.den]
 refine tB (Zyt E0 v1 E2.Object O0 ov1) (fun x1 h2 => ?_)
 have eh2_1 := h2.2
 refine tF (fun h3 => ?_) (fun h3 => ?_)
 ·refine tF (fun h4 => ?_) (fun h4 => ?_)
  ·refine tE (fun h5 => ?_) (fun h5 => ?_)
   ·have q6 : (SzL 8 (fun _ => True)) ([x1.1.Control] : (List Int)) := ⟨by simp only [List.length_cons, List.length_nil]; omega, fun _ _ => trivial⟩
    exact tR ⟨q6, Zvz⟩
   ·exact tR ⟨SzL.nil, Zvz⟩
  ·exact tR ⟨SzL.nil, Zvz⟩
 ·exact tR ⟨SzL.nil, Zvz⟩
theorem Zja (a0 : Zb) (a1 : (List Za)) (a2 : Zs) (a3 : Zak) (v1 : (List Za)) (E0 : Zb) (E1 : Zs) (E2 : Zak) (v36 : Bool) (h : (Zgb a0 a1 a2 a3) (.L0 v1 E0 E1 E2 v36)) : Tot (Zg6 v1 E0 E1 E2 v36).den (Nx (Zgb a0 a1 a2 a3) Zn6 (0, 0, 0, 0, 0, 0) (fun r => ((SzL 8 (fun _ => True)) r) ∧ (r = tlV a0 a1 a2 a3))) := by
 obtain ⟨al0, al1, al2, al3, ov1, O0, O1, O2, i0⟩ := h
 have lb_v1 := ov1.1
 subst al0
 subst al1
 subst al2
 subst al3
 dsimp only [Zg6, LT.den]
 refine tF (fun h1 => ?_) (fun h1 => ?_)
 ·refine tB (Zyv E1 E2.N O1) (fun x2 h3 => ?_)
  have eh3_0 := h3
  refine tF (fun h4 => ?_) (fun h4 => ?_)
  ·refine tE (fun h5 => ?_) (fun h5 => ?_)
   ·have q6 : (SzL 8 (fun _ => True)) ([x2.1.Player] : (List Int)) := ⟨by simp only [List.length_cons, List.length_nil]; omega, fun _ _ => trivial⟩
    exact tR ⟨q6, Zvz⟩
   ·exact tJ (Zi9 E0 v1 E1 E2 v1 E0 E2 x2.1 x2.2 ⟨rfl, rfl, rfl, ov1, O0, O2, (by grind)⟩)
  ·exact tJ (Zi9 E0 v1 E1 E2 v1 E0 E2 x2.1 x2.2 ⟨rfl, rfl, rfl, ov1, O0, O2, (by grind)⟩)
 ·exact tR ⟨SzL.nil, Zvz⟩
theorem Zadb (a0 : Zb) (a1 : (List Za)) (a2 : Zs) (a3 : Zak) (oa0 : Zq a0) (oa1 : (SzL 176 Zt) a1) (oa2 : Zbx a2) (oa3 : Zed a3) : Tot (Zud a0 a1 a2 a3) (fun r => ((SzL 8 (fun _ => True)) r) ∧ (r = tlV a0 a1 a2 a3)) := by
 unfold Zud
 refine tX (Inv := (Zgb a0 a1 a2 a3)) (μ := Zn6) (m := (1000000, 0, 0, 0, 0, 0)) ?_ ?_
 ·have lb_a1 := oa1.1
  have lq := oa0.1.1
  dsimp only [Zz4, LT.den]
  refine tE (fun h1 => ?_) (fun h1 => ?_)
  ·have q2 : (SzL 8 (fun _ => True)) ([a2.You] : (List Int)) := ⟨by simp only [List.length_cons, List.length_nil]; omega, fun _ _ => trivial⟩
   exact tR ⟨q2, Zvz⟩
  ·refine tE (fun h3 => ?_) (fun h3 => ?_)
   ·refine tB (Zyu a0 a2.You oa0) (fun x4 h5 => ?_)
    have eh5_1 := h5.2.1
    have eh5_2 := h5.2.2
    exact tR ⟨h5.1, Zvz⟩
   ·refine tE (fun h6 => ?_) (fun h6 => ?_)
    ·have q7 : (SzL 8 (fun _ => True)) ([a2.You] : (List Int)) := ⟨by simp only [List.length_cons, List.length_nil]; omega, fun _ _ => trivial⟩
     refine tB (Zyu a0 a2.You oa0) (fun x8 h9 => ?_)
     have eh9_1 := h9.2.1
     have eh9_2 := h9.2.2
     have q12 := q7.1
     have q13 := h9.1.1
     refine tB (tA Zn2 (by decide)) (fun x10 h11 => ?_)
     have lh11 : x10.length = [a2.You].length + x8.length := by rw [h11, List.length_append]
     try simp only [List.length_cons, List.length_nil, Nat.zero_add] at lh11
     exact tR ⟨⟨lo, fun _ _ => trivial⟩, Zvz⟩
    ·refine tE (fun h14 => ?_) (fun h14 => ?_)
     ·exact tJ (Zja a0 a1 a2 a3 a1 a0 a2 a3 (a3.Kind == 3) ⟨rfl, rfl, rfl, rfl, oa1, oa0, oa2, oa3, (by grind)⟩)
     ·exact tJ (Zja a0 a1 a2 a3 a1 a0 a2 a3 (a3.Kind == 8) ⟨rfl, rfl, rfl, rfl, oa1, oa0, oa2, oa3, (by grind)⟩)
 ·intro s hs
  cases s with
  | L0 v1 E0 E1 E2 v36 => exact Zja a0 a1 a2 a3 v1 E0 E1 E2 v36 hs
  | L1 v1 E0 E1 E2 v10 => exact Zi9 a0 a1 a2 a3 v1 E0 E1 E2 v10 hs
theorem Zls (a0 : Int) (a1 : Zb) (oa1 : Zq a1) : Tot (Zj7 a0 a1) (fun r => (r = !Zk6 a1.Players a0)) := by
 unfold Zj7
 refine tZ ?_
 dsimp only [Zol, LT.den]
 refine tD (fun h1 => ?_) (fun h1 => ?_)
 ·exact tR tk41
 ·have q2 := oa1.1.1
  refine tD (fun h3 => ?_) (fun h3 => ?_)
  ·exact tR tk41
  ·refine tB (tI (by omega) (by omega)) (fun x4 h5 => ?_)
   have oh5 : Zbs x4 := oa1.1.2 x4 h5.1
   have mh5 := h5.2
   exact tR tk41
def Zgs (a0 : (List Int)) (a1 : Zb) : Zba → Prop
 | .L0 v0 w1_0 v7 v8 => (v0 = a0) ∧ (w1_0 = a1) ∧ ((SzL 8 (fun _ => True)) v0) ∧ (Zq w1_0) ∧ (0 ≤ v8) ∧ (v7 = (v0.length : Int)) ∧ (∀ (k : Nat) x, (k : Int) < v8 → v0[k]? = some x → Zk6 w1_0.Players x = true)
def Zdk : Zba → M6
 | .L0 v0 w1_0 v7 v8 => (1, (v7 - v8).toNat, 1000000, 0, 0, 0)
theorem Zgt (a0 : (List Int)) (a1 : Zb) (oa0 : (SzL 8 (fun _ => True)) a0) (oa1 : Zq a1) : Tot (Zci a0 a1) (fun r => (FD a0 (Zk6 a1.Players) r)) := by
 unfold Zci
 refine tX (Inv := (Zgs a0 a1)) (μ := Zdk) (m := (1000000, 0, 0, 0, 0, 0)) ?_ ?_
 ·have lb_a0 := oa0.1
  dsimp only [Zdo, LT.den]
  have q1 := oa0.1
  exact tL ⟨rfl, rfl, oa0, oa1, cl, cl, tk28⟩ tk46
 ·intro s hs
  cases s with
  | L0 v0 w1_0 v7 v8 =>
   obtain ⟨al0, al1, ov0, ow1_0, cv8, i0, i1⟩ := hs
   have lb_v0 := ov0.1
   subst al0
   subst al1
   show Tot (Zb3 v0 w1_0 v7 v8).den _
   dsimp only [Zb3, LT.den]
   refine tD (fun h1 => ?_) (fun h1 => ?_)
   ·refine tB (tI (by omega) (by omega)) (fun x2 h3 => ?_)
    have mh3 := h3.2
    refine tB (Zls x2 w1_0 ow1_0) (fun x4 h5 => ?_)
    have eh5_0 := h5
    refine tF (fun h6 => ?_) (fun h6 => ?_)
    ·exact tR tk24
    ·refine qw (v8 + 1) fun q7 q8 => ?_
     exact tL ⟨rfl, rfl, ov0, ow1_0, cl, cl, tk28⟩ tk46
   ·exact tR tk24
abbrev Zfe (b0 : (List Int)) (a1 : Zb) (r : (List Int)) : Prop := ((SzL 8 (fun _ => True)) r) ∧ (r = b0.filter (Zk6 a1.Players))
def Zfm (b0 : (List Int)) (a1 : Zb) : Za3 → Prop
 | .L0 v0 w1_0 v5 v6 => (w1_0 = a1) ∧ ((SzL 8 (fun _ => True)) v0) ∧ (Zq w1_0) ∧ (0 ≤ v6) ∧ (DI b0 v0 (Zk6 w1_0.Players) v5 v6) ∧ (v6 ≤ (v0.length : Int))
def Zc0 : Za3 → M6
 | .L0 v0 w1_0 v5 v6 => (1, ((v0.length : Int) - v6).toNat, 1000000, 0, 0, 0)
theorem Zfn (b0 : (List Int)) (a1 : Zb) (ob0 : (SzL 8 (fun _ => True)) b0) (oa1 : Zq a1) : Tot (Zbu b0 a1) (Zfe b0 a1) := by
 unfold Zbu
 refine tX (Inv := (Zfm b0 a1)) (μ := Zc0) (m := (1000000, 0, 0, 0, 0, 0)) ?_ ?_
 ·have lb_b0 := ob0.1
  dsimp only [Zc2, LT.den]
  refine tB (Zgt b0 a1 ob0 oa1) (fun x1 h2 => ?_)
  have eh2_0 := h2
  have ph2 := Za3x eh2_0
  refine tE (fun h3 => ?_) (fun h3 => ?_)
  ·exact tR ⟨ob0, tk14⟩
  ·refine qw (x1 + 1) fun q4 q5 => ?_
   exact tL ⟨rfl, ob0, oa1, cl, tk3, cl⟩ tk44
 ·intro s hs
  cases s with
  | L0 v0 w1_0 v5 v6 =>
   obtain ⟨al0, ov0, ow1_0, cv6, i0, i1⟩ := hs
   have lb_v0 := ov0.1
   subst al0
   show Tot (Zbn v0 w1_0 v5 v6).den _
   dsimp only [Zbn, LT.den]
   have l0 := i0.1; have l1 := i0.2.1; have l2 := i0.2.2.1
   have q1 := ov0.1
   refine tD (fun h2 => ?_) (fun h2 => ?_)
   ·refine tB (tI (by omega) (by omega)) (fun x3 h4 => ?_)
    have mh4 := h4.2
    refine tB (Zls x3 w1_0 ow1_0) (fun x5 h6 => ?_)
    have eh6_0 := h6
    refine tO (fun h7 => ?_) (fun h7 => ?_)
    ·refine tB (tI (by omega) (by omega)) (fun x8 h9 => ?_)
     have mh9 := h9.2
     refine tB (Tot.set (by omega) (by omega)) (fun x10 h11 => ?_)
     have lh11 := h11.1
     have vh11 := h11.2.2
     refine qw (v5 + 1) fun q12 q13 => ?_
     refine qw (v6 + 1) fun q14 q15 => ?_
     exact tL ⟨rfl, ⟨lo, fun _ _ => trivial⟩, ow1_0, cl, tk3, cl⟩ tk44
    ·refine qw (v6 + 1) fun q16 q17 => ?_
     exact tL ⟨rfl, ov0, ow1_0, cl, tk3, cl⟩ tk44
   ·refine tB (Tot.clr (by omega) (by omega)) (fun x18 h19 => ?_)
    have lh19 := h19.1
    have vh19 := h19.2.2
    have q22 : x18.length * 8 ≤ 140737488351232 := (show SzL 8 (fun _ => True) x18 from ⟨lo, fun _ _ => trivial⟩).1
    refine tB (Tot.slice (by omega) (by omega) (by omega)) (fun x20 h21 => ?_)
    have lh21 := h21.1
    have vh21 := h21.2.2
    exact tR ⟨⟨lo, fun _ _ => trivial⟩, tk14⟩
theorem Zl5 (a0 : Zb) (a1 : (List Za)) (a2 : Zs) (a3 : Zak) (oa0 : Zq a0) (oa1 : (SzL 176 Zt) a1) (oa2 : Zbx a2) (oa3 : Zed a3) : Tot (Zm7 a0 a1 a2 a3) (fun r => ((SzL 8 (fun _ => True)) r) ∧ (r = plV a0 a1 a2 a3)) := by
 unfold Zm7
 refine tZ ?_
 have lb_a1 := oa1.1
 dsimp only [Zz6, LT.den]
 refine tB (Zadb a0 a1 a2 a3 oa0 oa1 oa2 oa3) (fun x1 h2 => ?_)
 have eh2_1 := h2.2
 refine tB (Zfn x1 a0 h2.1 oa0) (fun x3 h4 => ?_)
 have eh4_1 := h4.2
 exact tR ⟨h4.1, (by unfold plV; grind)⟩
def Zax9 (a0 : (List Int)) (a1 : (List Int)) : Zpx → Prop
 | .L0 v0 v1 v5 => (v0 = a0) ∧ (v1 = a1) ∧ ((SzL 8 (fun _ => True)) v0) ∧ ((SzL 8 (fun _ => True)) v1) ∧ (0 ≤ v5) ∧ (v0.length = v1.length) ∧ (∀ k : Nat, (k : Int) < v5 → v0[k]? = v1[k]?)
def Z2k : Zpx → M6
 | .L0 v0 v1 v5 => (1, ((v0.length : Int) - v5).toNat, 1000000, 0, 0, 0)
theorem Zhd (a0 : (List Int)) (a1 : (List Int)) (oa0 : (SzL 8 (fun _ => True)) a0) (oa1 : (SzL 8 (fun _ => True)) a1) : Tot (Zahi a0 a1) (fun r => (r = true ↔ a0 = a1)) := by
 unfold Zahi
 refine tX (Inv := (Zax9 a0 a1)) (μ := Z2k) (m := (1000000, 0, 0, 0, 0, 0)) ?_ ?_
 ·have lb_a0 := oa0.1
  have lb_a1 := oa1.1
  dsimp only [Zalx, LT.den]
  have q1 := oa0.1
  have q2 := oa1.1
  refine tN (fun h3 => ?_) (fun h3 => ?_)
  ·exact tR (by first | (refine ⟨fun _ => Zahq (by assumption) (by assumption) (by omega), fun _ => rfl⟩) | (refine ⟨fun h => absurd h (by decide), fun h => ?_⟩; exfalso; grind))
  ·exact tL ⟨rfl, rfl, oa0, oa1, cl, cl, tk21⟩ (by unfold Z2k lt6; dsimp only; omega)
 ·intro s hs
  cases s with
  | L0 v0 v1 v5 =>
   obtain ⟨al0, al1, ov0, ov1, cv5, i0, i1⟩ := hs
   have lb_v0 := ov0.1
   have lb_v1 := ov1.1
   subst al0
   subst al1
   show Tot (Z1o v0 v1 v5).den _
   dsimp only [Z1o, LT.den]
   have q1 := ov0.1
   refine tD (fun h2 => ?_) (fun h2 => ?_)
   ·refine tB (tI (by omega) (by omega)) (fun x3 h4 => ?_)
    have mh4 := h4.2
    refine tB (tI (by omega) (by omega)) (fun x5 h6 => ?_)
    have mh6 := h6.2
    refine tN (fun h7 => ?_) (fun h7 => ?_)
    ·exact tR (by first | (refine ⟨fun _ => Zahq (by assumption) (by assumption) (by omega), fun _ => rfl⟩) | (refine ⟨fun h => absurd h (by decide), fun h => ?_⟩; exfalso; grind))
    ·refine qw (v5 + 1) fun q8 q9 => ?_
     exact tL ⟨rfl, rfl, ov0, ov1, cl, cl, tk21⟩ (by unfold Z2k lt6; dsimp only; omega)
   ·exact tR (by first | (refine ⟨fun _ => Zahq (by assumption) (by assumption) (by omega), fun _ => rfl⟩) | (refine ⟨fun h => absurd h (by decide), fun h => ?_⟩; exfalso; grind))
theorem Zlt (a0 : Int) (a1 : Zb) (oa1 : Zq a1) : Tot (Zj8 a0 a1) (fun r => (r = !exB a1 a0)) := by
 unfold Zj8
 refine tZ ?_
 dsimp only [Zon, LT.den]
 refine tB (Z7w a1 a0 oa1) (fun x1 h2 => ?_)
 have eh2_0 := h2
 exact tR (by unfold exB; grind [Za4o])
def Zgu (a0 : (List Int)) (a1 : Zb) : Zbb → Prop
 | .L0 v0 w1_0 v7 v8 => (v0 = a0) ∧ (w1_0 = a1) ∧ ((SzL 8 (fun _ => True)) v0) ∧ (Zq w1_0) ∧ (0 ≤ v8) ∧ (v7 = (v0.length : Int)) ∧ (∀ (k : Nat) x, (k : Int) < v8 → v0[k]? = some x → exB w1_0 x = true)
def Zdl : Zbb → M6
 | .L0 v0 w1_0 v7 v8 => (1, (v7 - v8).toNat, 1000000, 0, 0, 0)
theorem Zgv (a0 : (List Int)) (a1 : Zb) (oa0 : (SzL 8 (fun _ => True)) a0) (oa1 : Zq a1) : Tot (Zcj a0 a1) (fun r => (FD a0 (exB a1) r)) := by
 unfold Zcj
 refine tX (Inv := (Zgu a0 a1)) (μ := Zdl) (m := (1000000, 0, 0, 0, 0, 0)) ?_ ?_
 ·have lb_a0 := oa0.1
  dsimp only [Zdq, LT.den]
  have q1 := oa0.1
  exact tL ⟨rfl, rfl, oa0, oa1, cl, cl, tk28⟩ tk47
 ·intro s hs
  cases s with
  | L0 v0 w1_0 v7 v8 =>
   obtain ⟨al0, al1, ov0, ow1_0, cv8, i0, i1⟩ := hs
   have lb_v0 := ov0.1
   subst al0
   subst al1
   show Tot (Zb4 v0 w1_0 v7 v8).den _
   dsimp only [Zb4, LT.den]
   refine tD (fun h1 => ?_) (fun h1 => ?_)
   ·refine tB (tI (by omega) (by omega)) (fun x2 h3 => ?_)
    have mh3 := h3.2
    refine tB (Zlt x2 w1_0 ow1_0) (fun x4 h5 => ?_)
    have eh5_0 := h5
    refine tF (fun h6 => ?_) (fun h6 => ?_)
    ·exact tR tk24
    ·refine qw (v8 + 1) fun q7 q8 => ?_
     exact tL ⟨rfl, rfl, ov0, ow1_0, cl, cl, tk28⟩ tk47
   ·exact tR tk24
def Zfo (b0 : (List Int)) (a1 : Zb) : Za4 → Prop
 | .L0 v0 w1_0 v5 v6 => (w1_0 = a1) ∧ ((SzL 8 (fun _ => True)) v0) ∧ (Zq w1_0) ∧ (0 ≤ v6) ∧ (DI b0 v0 (exB w1_0) v5 v6) ∧ (v6 ≤ (v0.length : Int))
def Zc1 : Za4 → M6
 | .L0 v0 w1_0 v5 v6 => (1, ((v0.length : Int) - v6).toNat, 1000000, 0, 0, 0)
theorem Zai (b0 : (List Int)) (a1 : Zb) (ob0 : (SzL 8 (fun _ => True)) b0) (oa1 : Zq a1) : Tot (Zbv b0 a1) (fun r => ((SzL 8 (fun _ => True)) r) ∧ (r = b0.filter (exB a1))) := by
 unfold Zbv
 refine tX (Inv := (Zfo b0 a1)) (μ := Zc1) (m := (1000000, 0, 0, 0, 0, 0)) ?_ ?_
 ·have lb_b0 := ob0.1
  dsimp only [Zc4, LT.den]
  refine tB (Zgv b0 a1 ob0 oa1) (fun x1 h2 => ?_)
  have eh2_0 := h2
  have ph2 := Za3x eh2_0
  refine tE (fun h3 => ?_) (fun h3 => ?_)
  ·exact tR ⟨ob0, tk14⟩
  ·refine qw (x1 + 1) fun q4 q5 => ?_
   exact tL ⟨rfl, ob0, oa1, cl, tk3, cl⟩ tk45
 ·intro s hs
  cases s with
  | L0 v0 w1_0 v5 v6 =>
   obtain ⟨al0, ov0, ow1_0, cv6, i0, i1⟩ := hs
   have lb_v0 := ov0.1
   subst al0
   show Tot (Zbo v0 w1_0 v5 v6).den _
   dsimp only [Zbo, LT.den]
   have l0 := i0.1; have l1 := i0.2.1; have l2 := i0.2.2.1
   have q1 := ov0.1
   refine tD (fun h2 => ?_) (fun h2 => ?_)
   ·refine tB (tI (by omega) (by omega)) (fun x3 h4 => ?_)
    have mh4 := h4.2
    refine tB (Zlt x3 w1_0 ow1_0) (fun x5 h6 => ?_)
    have eh6_0 := h6
    refine tO (fun h7 => ?_) (fun h7 => ?_)
    ·refine tB (tI (by omega) (by omega)) (fun x8 h9 => ?_)
     have mh9 := h9.2
     refine tB (Tot.set (by omega) (by omega)) (fun x10 h11 => ?_)
     have lh11 := h11.1
     have vh11 := h11.2.2
     refine qw (v5 + 1) fun q12 q13 => ?_
     refine qw (v6 + 1) fun q14 q15 => ?_
     exact tL ⟨rfl, ⟨lo, fun _ _ => trivial⟩, ow1_0, cl, tk3, cl⟩ tk45
    ·refine qw (v6 + 1) fun q16 q17 => ?_
     exact tL ⟨rfl, ov0, ow1_0, cl, tk3, cl⟩ tk45
   ·refine tB (Tot.clr (by omega) (by omega)) (fun x18 h19 => ?_)
    have lh19 := h19.1
    have vh19 := h19.2.2
    have q22 : x18.length * 8 ≤ 140737488351232 := (show SzL 8 (fun _ => True) x18 from ⟨lo, fun _ _ => trivial⟩).1
    refine tB (Tot.slice (by omega) (by omega) (by omega)) (fun x20 h21 => ?_)
    have lh21 := h21.1
    have vh21 := h21.2.2
    exact tR ⟨⟨lo, fun _ _ => trivial⟩, tk14⟩
theorem Zgc (a0 : Zb) (a1 : (List Za)) (a2 : Zs) (a3 : Zak) (oa0 : Zq a0) (oa1 : (SzL 176 Zt) a1) (oa2 : Zbx a2) (oa3 : Zed a3) : Tot (Zm8 a0 a1 a2 a3) (fun r => ((SzL 8 (fun _ => True)) r) ∧ (r = obV a0 a1 a2 a3)) := by
 unfold Zm8
 refine tZ ?_
 have lb_a1 := oa1.1
 dsimp only [Zz8, LT.den]
 refine tE (fun h1 => ?_) (fun h1 => ?_)
 ·have q2 : (SzL 8 (fun _ => True)) ([a2.Source] : (List Int)) := ⟨by simp only [List.length_cons, List.length_nil]; omega, fun _ _ => trivial⟩
  refine tB (Zai [a2.Source] a0 q2 oa0) (fun x3 h4 => ?_)
  have eh4_1 := h4.2
  exact tR ⟨h4.1, Z51⟩
 ·refine tE (fun h5 => ?_) (fun h5 => ?_)
  ·have q6 : (SzL 8 (fun _ => True)) ([a2.Event.Object] : (List Int)) := ⟨by simp only [List.length_cons, List.length_nil]; omega, fun _ _ => trivial⟩
   refine tB (Zai [a2.Event.Object] a0 q6 oa0) (fun x7 h8 => ?_)
   have eh8_1 := h8.2
   exact tR ⟨h8.1, Z51⟩
  ·refine tE (fun h9 => ?_) (fun h9 => ?_)
   ·refine tB (Z38 a0 a1 a2.You a2.Source a3.Filter oa0 oa1 oa3) (fun x10 h11 => ?_)
    have eh11_1 := h11.2
    refine tB (Zai x10 a0 h11.1 oa0) (fun x12 h13 => ?_)
    have eh13_1 := h13.2
    exact tR ⟨h13.1, Z51⟩
   ·refine tE (fun h14 => ?_) (fun h14 => ?_)
    ·refine tB (Zyv a2 a3.N oa2) (fun x15 h16 => ?_)
     have eh16_0 := h16
     refine tF (fun h17 => ?_) (fun h17 => ?_)
     ·refine tN (fun h18 => ?_) (fun h18 => ?_)
      ·have q19 : (SzL 8 (fun _ => True)) ([x15.1.Object] : (List Int)) := ⟨by simp only [List.length_cons, List.length_nil]; omega, fun _ _ => trivial⟩
       refine tB (Zai [x15.1.Object] a0 q19 oa0) (fun x20 h21 => ?_)
       have eh21_1 := h21.2
       exact tR ⟨h21.1, Z51⟩
      ·refine tB (Zai ([] : (List Int)) a0 SzL.nil oa0) (fun x22 h23 => ?_)
       have eh23_1 := h23.2
       exact tR ⟨h23.1, Z51⟩
     ·refine tB (Zai ([] : (List Int)) a0 SzL.nil oa0) (fun x24 h25 => ?_)
      have eh25_1 := h25.2
      exact tR ⟨h25.1, Z51⟩
    ·refine tB (Zai ([] : (List Int)) a0 SzL.nil oa0) (fun x26 h27 => ?_)
     have eh27_1 := h27.2
     exact tR ⟨h27.1, Z51⟩
abbrev alO (n : Int) : Zf := ⟨n, 0, 0, 0, 0, false, false, false, false, 0, ⟨0, 0, 0⟩, 0, -1, -1, false, 0, 0⟩
theorem Zb0 : Tot Zaah (fun r => r = true) := by
 unfold Zaah LF.run; dsimp only [Zaez, LT.den]
 rw [Option.bind_some, Zhx]
 show Tot (Zca Z1q.step (.L0 (⟨[⟨7, 0, 0, ⟨0, 0, 0, 0, 0, 0⟩, false, false, [], [], []⟩, ⟨20, 0, 0, ⟨0, 0, 0, 0, 0, 0⟩, false, false, [], [4], []⟩], [], [], [], [], [], [], 0, 0, 0, false, 0, 0, 5, 0, 0, [], 0, 0⟩ : Zb) 1)) _
 rw [Ze8 (s' := .L0 (⟨[⟨7, 0, 0, ⟨0, 0, 0, 0, 0, 0⟩, false, false, [], [], []⟩, ⟨20, 0, 0, ⟨0, 0, 0, 0, 0, 0⟩, false, false, [], [4], []⟩], [alO 1], [1], [], [], [], [], 0, 0, 0, false, 0, 0, 5, 0, 0, [], 0, 0⟩ : Zb) 2) (by kernel_rfl), Ze8 (s' := .L0 (⟨[⟨7, 0, 0, ⟨0, 0, 0, 0, 0, 0⟩, false, false, [], [], []⟩, ⟨20, 0, 0, ⟨0, 0, 0, 0, 0, 0⟩, false, false, [], [4], []⟩], [alO 1, alO 2], [1, 2], [], [], [], [], 0, 0, 0, false, 0, 0, 5, 0, 0, [], 0, 0⟩ : Zb) 3) (by kernel_rfl), Ze8 (s' := .L0 (⟨[⟨7, 0, 0, ⟨0, 0, 0, 0, 0, 0⟩, false, false, [], [], []⟩, ⟨20, 0, 0, ⟨0, 0, 0, 0, 0, 0⟩, false, false, [], [4], []⟩], [alO 1, alO 2, alO 3], [1, 2, 3], [], [], [], [], 0, 0, 0, false, 0, 0, 5, 0, 0, [], 0, 0⟩ : Zb) 4) (by kernel_rfl)]
 have szS : Zq (⟨[⟨7, 0, 0, ⟨0, 0, 0, 0, 0, 0⟩, false, false, [], [], []⟩, ⟨20, 0, 0, ⟨0, 0, 0, 0, 0, 0⟩, false, false, [], [4], []⟩], [alO 1, alO 2, alO 3], [1, 2, 3], [], [], [], [], 0, 0, 0, false, 0, 0, 5, 0, 0, [], 0, 0⟩ : Zb) := by
  refine ⟨⟨by decide, fun x hx => ?_⟩, ⟨by decide, fun _ _ => trivial⟩, ⟨by decide, fun _ _ => trivial⟩, SzL.nil, SzL.nil, SzL.nil, SzL.nil, SzL.nil⟩
  rcases List.mem_cons.1 hx with rfl | hx
  ·exact ⟨SzL.nil, SzL.nil, SzL.nil⟩
  ·rcases List.mem_cons.1 hx with rfl | hx
   ·exact ⟨SzL.nil, ⟨by decide, fun _ _ => trivial⟩, SzL.nil⟩
   ·cases hx
 have szA : SzL 176 Zt [(⟨[], ⟨0, 0, ⟨0, 0, 0, 0, 0⟩⟩, 0, ⟨0, 1, []⟩, 4, 0, 0, [], 0⟩ : Za), ⟨[], ⟨0, 0, ⟨0, 0, 0, 0, 0⟩⟩, 0, ⟨0, 1, []⟩, 4, 0, 0, [], 0⟩, ⟨[], ⟨0, 0, ⟨0, 0, 0, 0, 0⟩⟩, 0, ⟨0, 1, []⟩, 4, 0, 0, [], 0⟩] :=
  ⟨by decide, mem_cons' ⟨SzS.nil, SzL.nil, SzL.nil⟩ (mem_cons' ⟨SzS.nil, SzL.nil, SzL.nil⟩ (mem_cons' ⟨SzS.nil, SzL.nil, SzL.nil⟩ fun _ h => by cases h))⟩
 have szC : SzL 16 (fun _ => True) [(⟨0, 1⟩ : Zaj), ⟨3, 0⟩] := ⟨by decide, fun _ _ => trivial⟩
 have szI : ∀ l : List Int, l.length ≤ 100 → SzL 8 (fun _ => True) l := fun l h => ⟨by omega, fun _ _ => trivial⟩
 refine Tot.last ?_
 show Tot (Zxv _ 4).den _
 dsimp only [Zxv, LT.den]
 rw [show decide ((4 : Int) ≤ 3) = false from rfl, cond_false]
 refine tB (Zey _ _ _ _ szS szA szC SzS.nil) (fun x h => ?_)
 subst h
 refine Tot.bt (by kernel_rfl) ?_
 refine tB (Zey _ _ _ _ szS szA szC SzS.nil) (fun x h => ?_)
 subst h
 refine Tot.bt (by kernel_rfl) ?_
 refine tB (Zey _ _ _ _ szS szA szC SzS.nil) (fun x h => ?_)
 subst h
 refine Tot.bt (by kernel_rfl) ?_
 refine tB (Zey _ _ _ _ szS szA szC SzS.nil) (fun x h => ?_)
 subst h
 refine Tot.bt (by kernel_rfl) ?_
 refine tB (Zl5 _ _ _ _ szS szA szC SzS.nil) (fun x h => ?_)
 obtain ⟨h1, h2⟩ := h
 refine tB (Zhd _ _ h1 (szI _ (by decide))) (fun y h => ?_)
 obtain rfl : y = true := h.2 Zatr
 refine Tot.bt rfl ?_
 refine tB (Zl5 _ _ _ _ szS szA szC SzS.nil) (fun x h => ?_)
 obtain ⟨h1, h2⟩ := h
 refine tB (Zhd _ _ h1 (szI _ (by decide))) (fun y h => ?_)
 obtain rfl : y = true := h.2 Zatr
 refine Tot.bt rfl ?_
 refine tB (Zgc _ _ _ _ szS szA szC SzS.nil) (fun x h => ?_)
 obtain ⟨h1, h2⟩ := h
 refine tB (Zhd _ _ h1 (szI _ (by decide))) (fun y h => ?_)
 obtain rfl : y = true := h.2 Zatr
 refine Tot.bt rfl ?_
 refine tB (Zgc _ _ _ _ szS szA szC SzS.nil) (fun x h => ?_)
 obtain ⟨h1, h2⟩ := h
 refine tB (Zhd _ _ h1 (szI _ (by decide))) (fun y h => ?_)
 obtain rfl : y = true := h.2 Zatr
 exact ⟨_, rfl, _, rfl, rfl⟩
def Zap1 : Zkz → Prop
 | .L0 E0 v3 v4 v5 => (0 ≤ v5) ∧ True
def Z7x : Zkz → M6
 | .L0 E0 v3 v4 v5 => (1, (5 - v5).toNat, 1000000, 0, 0, 0)
theorem Zap2 (a0 : Zp) : Tot (Z5e a0) (fun r => True) := by
 unfold Z5e
 refine tX (Inv := Zap1) (μ := Z7x) (m := (1000000, 0, 0, 0, 0, 0)) ?_ ?_
 ·dsimp only [Zaai, LT.den]
  refine tB (Zqc a0) (fun x1 h2 => ?_)
  have eh2_0 := h2.1
  have eh2_1 := h2.2
  refine tO (fun h3 => ?_) (fun h3 => ?_)
  ·exact tR trivial
  ·have h3_0 := eh2_0 h3
   have h3_1 := eh2_1 h3
   exact tL ⟨cl, trivial⟩ tk77
 ·intro s hs
  cases s with
  | L0 E0 v3 v4 v5 =>
   obtain ⟨cv5, _⟩ := hs
   show Tot (Zue E0 v3 v4 v5).den _
   dsimp only [Zue, LT.den]
   refine tD (fun h1 => ?_) (fun h1 => ?_)
   ·refine tB (tI (by omega) tk53) (fun x2 h3 => ?_)
    refine tD (fun h4 => ?_) (fun h4 => ?_)
    ·refine qw (v3 + v4) fun q5 q6 => ?_
     refine qw (2 * v4) fun q7 q8 => ?_
     refine qw (v5 + 1) fun q9 q10 => ?_
     exact tL ⟨cl, trivial⟩ tk77
    ·refine qw (2 * v4) fun q11 q12 => ?_
     refine qw (v5 + 1) fun q13 q14 => ?_
     exact tL ⟨cl, trivial⟩ tk77
   ·exact tR trivial
def Zamx : Zjl → Prop
 | .L0 E0 E1 E2 v4 => (Zav E0) ∧ (Zav E1) ∧ (Zav E2) ∧ (0 ≤ v4) ∧ (E2.Effects.length ≤ v4.toNat) ∧ (v4.toNat ≤ E0.Effects.length)
def Zrx : Zjl → M6
 | .L0 E0 E1 E2 v4 => (1, ((E0.Effects.length : Int) - v4).toNat, 1000000, 0, 0, 0)
theorem Zamy (a0 : Zk) (oa0 : Zav a0) : Tot (Zsb a0) (fun r => (Zav r)) := by
 unfold Zsb
 refine tX (Inv := Zamx) (μ := Zrx) (m := (1000000, 0, 0, 0, 0, 0)) ?_ ?_
 ·dsimp only [Z63, LT.den]
  have q3 := oa0.2.1.1
  refine tB (tA Zn2 (by decide)) (fun x1 h2 => ?_)
  have lh2 : x1.length = ([] : (List Zr)).length + a0.Mods.length := by rw [h2, List.length_append]
  try simp only [List.length_cons, List.length_nil, Nat.zero_add] at lh2
  have q6 := oa0.2.2.2.1.1
  refine tB (tA Zn2 (by decide)) (fun x4 h5 => ?_)
  have lh5 : x4.length = ([] : (List Zcy)).length + a0.Specs.length := by rw [h5, List.length_append]
  try simp only [List.length_cons, List.length_nil, Nat.zero_add] at lh5
  exact tL ⟨oa0, ⟨(SzS.nil), SzL.nil, (SzS.nil), SzL.nil, SzL.nil, (SzS.nil)⟩, ⟨oa0.1, (SzL.app (k := 176) h2 lo (fun _ h => by cases h) oa0.2.1.2), oa0.2.2.1, (SzL.app (k := 144) h5 lo (fun _ h => by cases h) oa0.2.2.2.1.2), SzL.nil, oa0.2.2.2.2.2⟩, cl, cl, cl⟩ (by unfold Zrx lt6; dsimp only; omega)
 ·intro s hs
  cases s with
  | L0 E0 E1 E2 v4 =>
   obtain ⟨O0, O1, O2, cv4, i0, i1⟩ := hs
   show Tot (Zra E0 E1 E2 v4).den _
   dsimp only [Zra, LT.den]
   have q1 := O0.2.2.2.2.1.1
   refine tD (fun h2 => ?_) (fun h2 => ?_)
   ·refine tB (tI (by omega) (by omega)) (fun x3 h4 => ?_)
    have oh4 : Zao x3 := O0.2.2.2.2.1.2 x3 h4.1
    have q7 := oh4.2.2.2.2.1
    refine tB (tA Zn2 (by decide)) (fun x5 h6 => ?_)
    have lh6 : x5.length = ([] : (List Zr)).length + x3.Mods.length := by rw [h6, List.length_append]
    try simp only [List.length_cons, List.length_nil, Nat.zero_add] at lh6
    have q8 : (SzL 560 Zao) ([(⟨x3.Op, x3.Ref, x3.Amount, x3.Counter, x3.Zone, x3.Card, x3.Filter, x3.Pool, x5⟩ : Z0)] : (List Z0)) := ⟨by simp only [List.length_cons, List.length_nil]; omega, (mem_cons' ⟨oh4.1, oh4.2.1, oh4.2.2.1, oh4.2.2.2.1, (SzL.app (k := 176) h6 lo (fun _ h => by cases h) oh4.2.2.2.2.2)⟩ (fun _ h => by cases h))⟩
    have q11 := O2.2.2.2.2.1.1
    refine tB (tA Zdt (by decide)) (fun x9 h10 => ?_)
    have lh10 : x9.length = E2.Effects.length + 1 := by rw [h10, List.length_append]; rfl
    refine qw (v4 + 1) fun q12 q13 => ?_
    exact tL ⟨O0, O1, ⟨O2.1, O2.2.1, O2.2.2.1, O2.2.2.2.1, (SzL.app (k := 560) h10 lo O2.2.2.2.2.1.2 q8.2), O2.2.2.2.2.2⟩, cl, cl, cl⟩ (by unfold Zrx lt6; dsimp only; omega)
   ·exact tR O2
abbrev Zah9 (a0 : Zl) (r : Za) : Prop := (Zt r) ∧ (r.Abilities.length ≤ a0.Abilities.length)
def Zamz (a0 : Zl) : Zjm → Prop
 | .L0 E0 E1 E2 v4 => (E0 = a0) ∧ (Zad E0) ∧ (Zt E1) ∧ (Zt E2) ∧ (0 ≤ v4) ∧ (E2.Abilities.length ≤ v4.toNat) ∧ (v4.toNat ≤ E0.Abilities.length)
def Zry : Zjm → M6
 | .L0 E0 E1 E2 v4 => (1, ((E0.Abilities.length : Int) - v4).toNat, 1000000, 0, 0, 0)
theorem Zam0 (a0 : Zl) (oa0 : Zad a0) : Tot (Z1r a0) (Zah9 a0) := by
 unfold Z1r
 refine tX (Inv := (Zamz a0)) (μ := Zry) (m := (1000000, 0, 0, 0, 0, 0)) ?_ ?_
 ·dsimp only [Z65, LT.den]
  refine tB (Zap2 a0.Cost) (fun x1 h2 => ?_)
  have q5 := oa0.2.1.1
  refine tB (tA Zn2 (by decide)) (fun x3 h4 => ?_)
  have lh4 : x3.length = ([] : (List (List UInt8))).length + a0.Line.Subs.length := by rw [h4, List.length_append]
  try simp only [List.length_cons, List.length_nil, Nat.zero_add] at lh4
  exact tL ⟨rfl, oa0, ⟨(SzS.nil), SzL.nil, SzL.nil⟩, ⟨oa0.1, (SzL.app (k := 16) h4 lo (fun _ h => by cases h) oa0.2.1.2), SzL.nil⟩, cl, cl, cl⟩ (by unfold Zry lt6; dsimp only; omega)
 ·intro s hs
  cases s with
  | L0 E0 E1 E2 v4 =>
   obtain ⟨al0, O0, O1, O2, cv4, i0, i1⟩ := hs
   subst al0
   show Tot (Zrb E0 E1 E2 v4).den _
   dsimp only [Zrb, LT.den]
   have q1 := O0.2.2.1
   refine tD (fun h2 => ?_) (fun h2 => ?_)
   ·refine tB (tI (by omega) (by omega)) (fun x3 h4 => ?_)
    have oh4 : Zav x3 := O0.2.2.2 x3 h4.1
    refine tB (Zamy x3 oh4) (fun x5 h6 => ?_)
    have q7 : (SzL 640 Zav) ([x5] : (List Zk)) := ⟨by simp only [List.length_cons, List.length_nil]; omega, (mem_cons' h6 (fun _ h => by cases h))⟩
    have q10 := O2.2.2.1
    refine tB (tA Zdt (by decide)) (fun x8 h9 => ?_)
    have lh9 : x8.length = E2.Abilities.length + 1 := by rw [h9, List.length_append]; rfl
    refine qw (v4 + 1) fun q11 q12 => ?_
    exact tL ⟨rfl, O0, O1, ⟨O2.1, O2.2.1, (SzL.app (k := 640) h9 lo O2.2.2.2 q7.2)⟩, cl, cl, cl⟩ (by unfold Zry lt6; dsimp only; omega)
   ·exact tR ⟨O2, cl⟩
def Zql : Zrc → Prop
 | .L0 v0 E0 E1 v5 => ((SzL 176 Zad) v0) ∧ (Zt E1) ∧ (∀ c, c ∈ v0 → c.Abilities.length ≤ 8) ∧ (E1.Abilities.length ≤ 8)
 | .L1 E0 E1 E2 => (Zt E1) ∧ (Zt E2) ∧ (E1.Abilities.length ≤ 8) ∧ (E2.Abilities.length ≤ 8)
def Zab5 : Zrc → M6
 | .L0 v0 E0 E1 v5 => (0, 0, 0, 0, 0, 0)
 | .L1 E0 E1 E2 => (0, 0, 0, 0, 0, 0)
theorem Znl (E0 : Zf) (E1 : Za) (E2 : Za) (h : Zql (.L1 E0 E1 E2)) : Tot (Zop E0 E1 E2).den (Nx Zql Zab5 (0, 0, 0, 0, 0, 0) (fun r => (Zt r) ∧ (r.Abilities.length ≤ 8))) := by
 obtain ⟨O1, O2, i0, i1⟩ := h
 dsimp only [Zop, LT.den]
 refine tE (fun h1 => ?_) (fun h1 => ?_)
 ·exact tR ⟨⟨O2.1, O2.2.1, O2.2.2⟩, cl⟩
 ·refine tE (fun h2 => ?_) (fun h2 => ?_)
  ·exact tR ⟨⟨O2.1, O2.2.1, O2.2.2⟩, cl⟩
  ·exact tR ⟨⟨O2.1, O2.2.1, O2.2.2⟩, cl⟩
theorem Zvc (v0 : (List Zl)) (E0 : Zf) (E1 : Za) (v5 : Int) (h : Zql (.L0 v0 E0 E1 v5)) : Tot (Ztp v0 E0 E1 v5).den (Nx Zql Zab5 (0, 0, 0, 0, 0, 0) (fun r => (Zt r) ∧ (r.Abilities.length ≤ 8))) := by
 obtain ⟨ov0, O1, i0, i1⟩ := h
 have lb_v0 := ov0.1
 dsimp only [Ztp, LT.den]
 refine tD (fun h1 => ?_) (fun h1 => ?_)
 ·have q2 := ov0.1
  refine tD (fun h3 => ?_) (fun h3 => ?_)
  ·refine tB (tI (by omega) (by omega)) (fun x4 h5 => ?_)
   have oh5 : Zad x4 := ov0.2 x4 h5.1
   have mh5 := i0 x4 h5.1
   refine tB (Zam0 x4 oh5) (fun x6 h7 => ?_)
   have eh7_1 := h7.2
   exact tJ (Znl E0 E1 x6 ⟨O1, h7.1, cl, cl⟩)
  ·exact tJ (Znl E0 E1 (⟨([] : List UInt8), (⟨0, 0, (⟨0, 0, 0, 0, 0⟩ : (A5 Int))⟩ : Zp), 0, (⟨0, 0, ([] : (List (List UInt8)))⟩ : Zu), 0, 0, 0, ([] : (List Zk)), 0⟩ : Za) ⟨O1, ⟨(SzS.nil), SzL.nil, SzL.nil⟩, cl, cl⟩)
 ·exact tJ (Znl E0 E1 (⟨([] : List UInt8), (⟨0, 0, (⟨0, 0, 0, 0, 0⟩ : (A5 Int))⟩ : Zp), 0, (⟨0, 0, ([] : (List (List UInt8)))⟩ : Zu), 0, 0, 0, ([] : (List Zk)), 0⟩ : Za) ⟨O1, ⟨(SzS.nil), SzL.nil, SzL.nil⟩, cl, cl⟩)
theorem Zam1 (a0 : (List Zl)) (a1 : Zf) (oa0 : (SzL 176 Zad) a0) (h0 : ∀ c, c ∈ a0 → c.Abilities.length ≤ 8) : Tot (Zal1 a0 a1) (fun r => (Zt r) ∧ (r.Abilities.length ≤ 8)) := by
 unfold Zal1
 refine tX (Inv := Zql) (μ := Zab5) (m := (1000000, 0, 0, 0, 0, 0)) ?_ ?_
 ·have lb_a0 := oa0.1
  dsimp only [Zawt, LT.den]
  refine tD (fun h1 => ?_) (fun h1 => ?_)
  ·exact tJ (Zvc a0 a1 (⟨([] : List UInt8), (⟨0, 0, (⟨0, 0, 0, 0, 0⟩ : (A5 Int))⟩ : Zp), 0, (⟨0, 0, ([] : (List (List UInt8)))⟩ : Zu), 0, 0, 0, ([] : (List Zk)), 0⟩ : Za) a1.Card ⟨oa0, ⟨(SzS.nil), SzL.nil, SzL.nil⟩, Zar, cl⟩)
  ·exact tJ (Zvc a0 a1 (⟨([] : List UInt8), (⟨0, 0, (⟨0, 0, 0, 0, 0⟩ : (A5 Int))⟩ : Zp), 0, (⟨0, 0, ([] : (List (List UInt8)))⟩ : Zu), 0, 0, 0, ([] : (List Zk)), 0⟩ : Za) a1.Copy ⟨oa0, ⟨(SzS.nil), SzL.nil, SzL.nil⟩, Zar, cl⟩)
 ·intro s hs
  cases s with
  | L0 v0 E0 E1 v5 => exact Zvc v0 E0 E1 v5 hs
  | L1 E0 E1 E2 => exact Znl E0 E1 E2 hs
def Zap3 (a0 : (List Zl)) (a1 : Zb) : Zg9 → Prop
 | .L0 v0 E0 v5 v6 => (E0 = a1) ∧ ((SzL 176 Zad) v0) ∧ (Zq E0) ∧ ((SzL 224 Z7) v5) ∧ (0 ≤ v6) ∧ (∀ c, c ∈ v0 → c.Abilities.length ≤ 8) ∧ (E0.Objects.length ≤ 60) ∧ (E0.Conts.length ≤ 8) ∧ (v5.length ≤ 8 * v6.toNat) ∧ (v6.toNat ≤ E0.Objects.length)
 | .L1 v0 E0 v5 v6 E1 E2 v9 => (E0 = a1) ∧ ((SzL 176 Zad) v0) ∧ (Zq E0) ∧ ((SzL 224 Z7) v5) ∧ (Zt E2) ∧ (0 ≤ v9) ∧ (0 ≤ v6) ∧ (v6 < (E0.Objects.length : Int)) ∧ (∀ c, c ∈ v0 → c.Abilities.length ≤ 8) ∧ (E0.Objects.length ≤ 60) ∧ (E0.Conts.length ≤ 8) ∧ (E2.Abilities.length ≤ 8) ∧ (v5.length ≤ 8 * v6.toNat + v9.toNat) ∧ (v9.toNat ≤ E2.Abilities.length)
 | .L2 E0 v5 v11 => (E0 = a1) ∧ (Zq E0) ∧ ((SzL 224 Z7) v5) ∧ (0 ≤ v11) ∧ (E0.Conts.length ≤ 8) ∧ (v5.length ≤ 480 + v11.toNat) ∧ (v11.toNat ≤ E0.Conts.length)
def Z7y : Zg9 → M6
 | .L0 v0 E0 v5 v6 => (3, ((E0.Objects.length : Int) - v6).toNat, 1000000, 0, 0, 0)
 | .L1 v0 E0 v5 v6 E1 E2 v9 => (3, ((E0.Objects.length : Int) - v6).toNat, 1, ((E2.Abilities.length : Int) - v9).toNat, 1000000, 0)
 | .L2 E0 v5 v11 => (1, ((E0.Conts.length : Int) - v11).toNat, 1000000, 0, 0, 0)
theorem Zap4 (a0 : (List Zl)) (a1 : Zb) (oa0 : (SzL 176 Zad) a0) (oa1 : Zq a1) (h0 : ∀ c, c ∈ a0 → c.Abilities.length ≤ 8) (h1 : a1.Objects.length ≤ 60) (h2 : a1.Conts.length ≤ 8) : Tot (Zvv a0 a1) (fun r => ((SzL 224 Z7) r) ∧ (r.length ≤ 10000)) := by
 unfold Zvv
 refine tX (Inv := (Zap3 a0 a1)) (μ := Z7y) (m := (1000000, 0, 0, 0, 0, 0)) ?_ ?_
 ·have lb_a0 := oa0.1
  dsimp only [Zaak, LT.den]
  exact tL ⟨rfl, oa0, oa1, SzL.nil, cl, Zar, cl, cl, cl, cl⟩ tk78
 ·intro s hs
  cases s with
  | L0 v0 E0 v5 v6 =>
   obtain ⟨al0, ov0, O0, ov5, cv6, i0, i1, i2, i3, i4⟩ := hs
   have lb_v0 := ov0.1
   have lb_v5 := ov5.1
   subst al0
   show Tot (Zuf v0 E0 v5 v6).den _
   dsimp only [Zuf, LT.den]
   have q1 := O0.2.1.1
   refine tD (fun h2 => ?_) (fun h2 => ?_)
   ·refine tB (tI (by omega) (by omega)) (fun x3 h4 => ?_)
    refine tN (fun h5 => ?_) (fun h5 => ?_)
    ·refine qw (v6 + 1) fun q6 q7 => ?_
     exact tL ⟨rfl, ov0, O0, ov5, cl, Zar, cl, cl, cl, cl⟩ tk78
    ·refine tB (Zam1 v0 x3 ov0 Zar) (fun x8 h9 => ?_)
     have eh9_1 := h9.2
     exact tL ⟨rfl, ov0, O0, ov5, h9.1, cl, cl, cl, Zar, cl, cl, cl, cl, cl⟩ tk78
   ·exact tL ⟨rfl, O0, ov5, cl, cl, cl, cl⟩ tk78
  | L1 v0 E0 v5 v6 E1 E2 v9 =>
   obtain ⟨al0, ov0, O0, ov5, O2, cv9, cv6, bd7, i0, i1, i2, i3, i4, i5⟩ := hs
   have lb_v0 := ov0.1
   have lb_v5 := ov5.1
   subst al0
   show Tot (Zug v0 E0 v5 v6 E1 E2 v9).den _
   dsimp only [Zug, LT.den]
   have lx_0 : E0.Objects.length * 128 ≤ 140737488351232 := O0.2.1.1
   have q1 := O2.2.2.1
   refine tD (fun h2 => ?_) (fun h2 => ?_)
   ·refine tB (tI (by omega) (by omega)) (fun x3 h4 => ?_)
    have oh4 : Zav x3 := O2.2.2.2 x3 h4.1
    refine tE (fun h5 => ?_) (fun h5 => ?_)
    ·have q6 : (SzL 224 Z7) ([(⟨E1.Id, v9, E1.Control, E1.Stamp, false, ([] : (List Int)), x3.Filter, x3.Mods⟩ : Zm)] : (List Zm)) := ⟨by simp only [List.length_cons, List.length_nil]; omega, (mem_cons' ⟨SzL.nil, oh4.1, oh4.2.1⟩ (fun _ h => by cases h))⟩
     have q9 := ov5.1
     refine tB (tA Zdt (by decide)) (fun x7 h8 => ?_)
     have lh8 : x7.length = v5.length + 1 := by rw [h8, List.length_append]; rfl
     refine qw (v9 + 1) fun q10 q11 => ?_
     exact tL ⟨rfl, ov0, O0, (SzL.app (k := 224) h8 lo ov5.2 q6.2), O2, cl, cl, cl, Zar, cl, cl, cl, cl, cl⟩ tk78
    ·refine qw (v9 + 1) fun q12 q13 => ?_
     exact tL ⟨rfl, ov0, O0, ov5, O2, cl, cl, cl, Zar, cl, cl, cl, cl, cl⟩ tk78
   ·refine qw (v6 + 1) fun q14 q15 => ?_
    exact tL ⟨rfl, ov0, O0, ov5, cl, Zar, cl, cl, cl, cl⟩ tk78
  | L2 E0 v5 v11 =>
   obtain ⟨al0, O0, ov5, cv11, i0, i1, i2⟩ := hs
   have lb_v5 := ov5.1
   subst al0
   show Tot (Zuh E0 v5 v11).den _
   dsimp only [Zuh, LT.den]
   have q1 := O0.2.2.2.2.2.2.1.1
   refine tD (fun h2 => ?_) (fun h2 => ?_)
   ·refine tB (tI (by omega) (by omega)) (fun x3 h4 => ?_)
    have oh4 : Zsh x3 := O0.2.2.2.2.2.2.1.2 x3 h4.1
    have q5 : (SzL 224 Z7) ([(⟨x3.Source, (-1), x3.Control, x3.Stamp, true, x3.Objects, (⟨0, 0, 0, 0, 0, 0, 0, ([] : List UInt8), 0, 0, (⟨0, 0⟩ : Zd), (⟨0, 0⟩ : Zd), (⟨0, 0⟩ : Zd)⟩ : Ze), x3.Mods⟩ : Zm)] : (List Zm)) := ⟨by simp only [List.length_cons, List.length_nil]; omega, (mem_cons' ⟨oh4.1, (SzS.nil), oh4.2⟩ (fun _ h => by cases h))⟩
    have q8 := ov5.1
    refine tB (tA Zdt (by decide)) (fun x6 h7 => ?_)
    have lh7 : x6.length = v5.length + 1 := by rw [h7, List.length_append]; rfl
    refine qw (v11 + 1) fun q9 q10 => ?_
    exact tL ⟨rfl, O0, (SzL.app (k := 224) h7 lo ov5.2 q5.2), cl, cl, cl, cl⟩ tk78
   ·exact tR ⟨ov5, cl⟩
abbrev Zap5 (a0 : (List Zl)) (a1 : Zb) (r : Zc) : Prop := (Zy r) ∧ (r.S.Objects.length = a1.Objects.length) ∧ (r.L.length ≤ 10000) ∧ (r.All.length = r.S.Objects.length) ∧ (r.Blank.length = r.S.Objects.length) ∧ (r.Begun.length = r.L.length) ∧ (r.Sets.length = r.L.length)
def Zasz (a0 : (List Zl)) (a1 : Zb) : Zmt → Prop
 | .L0 v0 E0 E1 E2 v6 => (E0 = a1) ∧ ((SzL 176 Zad) v0) ∧ (Zq E0) ∧ (Zy E1) ∧ (Zy E2) ∧ (0 ≤ v6) ∧ (∀ c, c ∈ v0 → c.Abilities.length ≤ 8) ∧ (E2.S.Objects.length = E0.Objects.length) ∧ (E2.L.length ≤ 10000) ∧ (E2.All.length = v6.toNat) ∧ (v6.toNat ≤ E0.Objects.length) ∧ (E0.Objects.length ≤ 60)
def Zyw : Zmt → M6
 | .L0 v0 E0 E1 E2 v6 => (1, ((E0.Objects.length : Int) - v6).toNat, 1000000, 0, 0, 0)
theorem Zas0 (a0 : (List Zl)) (a1 : Zb) (oa0 : (SzL 176 Zad) a0) (oa1 : Zq a1) (h0 : ∀ c, c ∈ a0 → c.Abilities.length ≤ 8) (h1 : a1.Objects.length ≤ 60) (h2 : a1.Conts.length ≤ 8) : Tot (Zaam a0 a1) (Zap5 a0 a1) := by
 unfold Zaam
 refine tX (Inv := (Zasz a0 a1)) (μ := Zyw) (m := (1000000, 0, 0, 0, 0, 0)) ?_ ?_
 ·have lb_a0 := oa0.1
  dsimp only [Zae0, LT.den]
  refine tB (Zap4 a0 a1 oa0 oa1 Zar cl cl) (fun x1 h2 => ?_)
  have eh2_1 := h2.2
  exact tL ⟨rfl, oa0, oa1, ⟨⟨SzL.nil, SzL.nil, SzL.nil, SzL.nil, SzL.nil, SzL.nil, SzL.nil, SzL.nil⟩, SzL.nil, SzL.nil, SzL.nil, SzL.nil, SzL.nil⟩, ⟨oa1, SzL.nil, h2.1, SzL.nil, SzL.nil, SzL.nil⟩, cl, Zar, cl, cl, cl, cl, cl⟩ (by unfold Zyw lt6; dsimp only; omega)
 ·intro s hs
  cases s with
  | L0 v0 E0 E1 E2 v6 =>
   obtain ⟨al0, ov0, O0, O1, O2, cv6, i0, i1, i2, i3, i4, i5⟩ := hs
   have lb_v0 := ov0.1
   subst al0
   show Tot (Zxw v0 E0 E1 E2 v6).den _
   dsimp only [Zxw, LT.den]
   have q1 := O0.2.1.1
   refine tD (fun h2 => ?_) (fun h2 => ?_)
   ·refine tB (tI (by omega) (by omega)) (fun x3 h4 => ?_)
    refine tB (Zam1 v0 x3 ov0 Zar) (fun x5 h6 => ?_)
    have eh6_1 := h6.2
    have q7 : (SzL 176 Zt) ([x5] : (List Za)) := ⟨by simp only [List.length_cons, List.length_nil]; omega, (mem_cons' h6.1 (fun _ h => by cases h))⟩
    have q10 := O2.2.1.1
    refine tB (tA Zdt (by decide)) (fun x8 h9 => ?_)
    have lh9 : x8.length = E2.All.length + 1 := by rw [h9, List.length_append]; rfl
    refine qw (v6 + 1) fun q11 q12 => ?_
    exact tL ⟨rfl, ov0, O0, O1, ⟨O2.1, (SzL.app (k := 176) h9 lo O2.2.1.2 q7.2), O2.2.2.1, O2.2.2.2.1, O2.2.2.2.2.1, O2.2.2.2.2.2⟩, cl, Zar, cl, cl, cl, cl, cl⟩ (by unfold Zyw lt6; dsimp only; omega)
   ·have q13 := O2.2.2.1.1
    refine tB (Tot.make ⟨by omega, by omega, by omega, by omega⟩) (fun x14 h15 => ?_)
    have lh15 := h15.1
    refine tB (Tot.make ⟨by omega, by omega, by omega, by omega⟩) (fun x16 h17 => ?_)
    have lh17 := h17.1
    refine tB (Tot.make ⟨by omega, by omega, by omega, by omega⟩) (fun x18 h19 => ?_)
    have lh19 := h19.1
    exact tR ⟨⟨O2.1, O2.2.1, O2.2.2.1, ⟨lo, fun _ _ => trivial⟩, ⟨lo, fun e he => by rw [h17.2 e he]; exact SzL.nil⟩, ⟨lo, fun _ _ => trivial⟩⟩, cl, cl, cl, cl, cl, cl⟩
theorem Zc9 (a0 : Int) : Tot (Ztq a0) (fun r => (r = clV a0)) := by
 unfold Ztq
 refine tZ ?_
 dsimp only [Z1s, LT.den]
 refine tD (fun h1 => ?_) (fun h1 => ?_)
 ·exact tR (by unfold clV Zge Zdy; grind)
 ·refine tD (fun h2 => ?_) (fun h2 => ?_)
  ·exact tR (by unfold clV Zge Zdy; grind)
  ·exact tR (by unfold clV Zge Zdy; grind)
theorem Zazn (a0 : Int) (a1 : Int) : Tot (Zao3 a0 a1) (fun r => True) := by
 unfold Zao3
 refine tZ ?_
 dsimp only [Zaq3, LT.den]
 refine tB (Zc9 a0) (fun x1 h2 => ?_)
 have eh2_0 := h2
 refine tB (Zc9 a1) (fun x3 h4 => ?_)
 have eh4_0 := h4
 refine qw (x1 - x3) fun q5 q6 => ?_
 refine tB (Zc9 (IntKind.wrap .i64 (x1 - x3))) (fun x7 h8 => ?_)
 have eh8_0 := h8
 exact tR trivial
theorem Zas1 (a0 : (A3 Int)) : Tot (Zaan a0) (fun r => True) := by
 unfold Zaan
 refine tZ ?_
 dsimp only [Zae3, LT.den]
 refine tB (tI (by omega) (by have e : (A3.list a0).length = 3 := rfl; omega)) (fun x1 h2 => ?_)
 refine tB (tI (by omega) (by have e : (A3.list a0).length = 3 := rfl; omega)) (fun x3 h4 => ?_)
 refine tB (Zazn x1 x3) (fun x5 h6 => ?_)
 exact tR trivial
theorem Zh2 (a0 : Int) (a1 : Int) : Tot (Z3t a0 a1) (fun r => True) := by
 unfold Z3t
 refine tZ ?_
 dsimp only [Zaao, LT.den]
 refine tB (Zc9 a0) (fun x1 h2 => ?_)
 have eh2_0 := h2
 refine tB (Zc9 a1) (fun x3 h4 => ?_)
 have eh4_0 := h4
 refine qw (x1 + x3) fun q5 q6 => ?_
 refine tB (Zc9 (IntKind.wrap .i64 (x1 + x3))) (fun x7 h8 => ?_)
 have eh8_0 := h8
 exact tR trivial
abbrev Zaia (a0 : Zc) (r : Zc) : Prop := (Zy r) ∧ (r.S.Objects.length = a0.S.Objects.length) ∧ (r.L.length = a0.L.length) ∧ (r.All.length = r.S.Objects.length) ∧ (r.Blank.length = r.S.Objects.length) ∧ (r.Begun.length = r.L.length) ∧ (r.Sets.length = r.L.length)
def Zam2 (a0 : Zc) : Zjn → Prop
 | .L0 E0 E1 E2 v4 => (E0 = a0) ∧ (Zy E0) ∧ (Zy E1) ∧ (Zy E2) ∧ (0 ≤ v4) ∧ (E2.S.Objects.length = E0.S.Objects.length) ∧ (E2.L.length = E0.L.length) ∧ (E2.Begun.length = E0.Begun.length) ∧ (E2.Sets.length = E0.Sets.length) ∧ (E2.Blank.length = E0.Blank.length) ∧ (E2.All.length = v4.toNat) ∧ (v4.toNat ≤ E0.All.length) ∧ (E0.All.length = E0.S.Objects.length) ∧ (E0.Blank.length = E0.S.Objects.length) ∧ (E0.Begun.length = E0.L.length) ∧ (E0.Sets.length = E0.L.length) ∧ (E0.S.Objects.length ≤ 60) ∧ (E0.L.length ≤ 10000)
def Z4a : Zjn → M6
 | .L0 E0 E1 E2 v4 => (1, ((E0.All.length : Int) - v4).toNat, 1000000, 0, 0, 0)
theorem Zam3 (a0 : Zc) (oa0 : Zy a0) (h0 : a0.All.length = a0.S.Objects.length) (h1 : a0.Blank.length = a0.S.Objects.length) (h2 : a0.Begun.length = a0.L.length) (h3 : a0.Sets.length = a0.L.length) (h4 : a0.S.Objects.length ≤ 60) (h5 : a0.L.length ≤ 10000) : Tot (Z1t a0) (Zaia a0) := by
 unfold Z1t
 refine tX (Inv := (Zam2 a0)) (μ := Z4a) (m := (1000000, 0, 0, 0, 0, 0)) ?_ ?_
 ·dsimp only [Z67, LT.den]
  exact tL ⟨rfl, oa0, ⟨⟨SzL.nil, SzL.nil, SzL.nil, SzL.nil, SzL.nil, SzL.nil, SzL.nil, SzL.nil⟩, SzL.nil, SzL.nil, SzL.nil, SzL.nil, SzL.nil⟩, ⟨oa0.1, SzL.nil, oa0.2.2.1, oa0.2.2.2.1, oa0.2.2.2.2.1, oa0.2.2.2.2.2⟩, cl, cl, cl, cl, cl, cl, cl, cl, cl, cl, cl, cl, cl, cl⟩ tk68
 ·intro s hs
  cases s with
  | L0 E0 E1 E2 v4 =>
   obtain ⟨al0, O0, O1, O2, cv4, i0, i1, i2, i3, i4, i5, i6, i7, i8, i9, i10, i11, i12⟩ := hs
   subst al0
   show Tot (Zrd E0 E1 E2 v4).den _
   dsimp only [Zrd, LT.den]
   have q1 := O0.2.1.1
   refine tD (fun h2 => ?_) (fun h2 => ?_)
   ·refine tB (tI (by omega) (by omega)) (fun x3 h4 => ?_)
    have oh4 : Zt x3 := O0.2.1.2 x3 h4.1
    refine tB (tI (by omega) (by omega)) (fun x5 h6 => ?_)
    refine tE (fun h7 => ?_) (fun h7 => ?_)
    ·refine tE (fun h8 => ?_) (fun h8 => ?_)
     ·refine tB (Zas1 x5.Counters) (fun x9 h10 => ?_)
      refine tB (Zh2 x3.Power x9) (fun x11 h12 => ?_)
      refine tB (Zh2 x3.Tough x9) (fun x13 h14 => ?_)
      have q15 : (SzL 176 Zt) ([(⟨x3.Name, x3.Cost, x3.Colors, x3.Line, x11, x13, x3.Keys, x3.Abilities, x3.Control⟩ : Za)] : (List Za)) := ⟨by simp only [List.length_cons, List.length_nil]; omega, (mem_cons' ⟨oh4.1, oh4.2.1, oh4.2.2⟩ (fun _ h => by cases h))⟩
      have q18 := O2.2.1.1
      refine tB (tA Zdt (by decide)) (fun x16 h17 => ?_)
      have lh17 : x16.length = E2.All.length + 1 := by rw [h17, List.length_append]; rfl
      refine qw (v4 + 1) fun q19 q20 => ?_
      exact tL ⟨rfl, O0, O1, ⟨O2.1, (SzL.app (k := 176) h17 lo O2.2.1.2 q15.2), O2.2.2.1, O2.2.2.2.1, O2.2.2.2.2.1, O2.2.2.2.2.2⟩, cl, cl, cl, cl, cl, cl, cl, cl, cl, cl, cl, cl, cl, cl⟩ tk68
     ·have q21 : (SzL 176 Zt) ([x3] : (List Za)) := ⟨by simp only [List.length_cons, List.length_nil]; omega, (mem_cons' oh4 (fun _ h => by cases h))⟩
      have q24 := O2.2.1.1
      refine tB (tA Zdt (by decide)) (fun x22 h23 => ?_)
      have lh23 : x22.length = E2.All.length + 1 := by rw [h23, List.length_append]; rfl
      refine qw (v4 + 1) fun q25 q26 => ?_
      exact tL ⟨rfl, O0, O1, ⟨O2.1, (SzL.app (k := 176) h23 lo O2.2.1.2 q21.2), O2.2.2.1, O2.2.2.2.1, O2.2.2.2.2.1, O2.2.2.2.2.2⟩, cl, cl, cl, cl, cl, cl, cl, cl, cl, cl, cl, cl, cl, cl⟩ tk68
    ·have q27 : (SzL 176 Zt) ([x3] : (List Za)) := ⟨by simp only [List.length_cons, List.length_nil]; omega, (mem_cons' oh4 (fun _ h => by cases h))⟩
     have q30 := O2.2.1.1
     refine tB (tA Zdt (by decide)) (fun x28 h29 => ?_)
     have lh29 : x28.length = E2.All.length + 1 := by rw [h29, List.length_append]; rfl
     refine qw (v4 + 1) fun q31 q32 => ?_
     exact tL ⟨rfl, O0, O1, ⟨O2.1, (SzL.app (k := 176) h29 lo O2.2.1.2 q27.2), O2.2.2.1, O2.2.2.2.1, O2.2.2.2.2.1, O2.2.2.2.2.2⟩, cl, cl, cl, cl, cl, cl, cl, cl, cl, cl, cl, cl, cl, cl⟩ tk68
   ·exact tR ⟨O2, cl, cl, cl, cl, cl, cl⟩
def Znm : Zh0 → Prop
 | .L0 v3 v6 => True
 | .L1 v3 v11 => True
 | .L2 v3 v14 => True
def Zqm : Zh0 → M6
 | .L0 v3 v6 => (0, 0, 0, 0, 0, 0)
 | .L1 v3 v11 => (0, 0, 0, 0, 0, 0)
 | .L2 v3 v14 => (0, 0, 0, 0, 0, 0)
theorem Zjb (v3 : Int) (v14 : Bool) (h : True) : Tot (Zii v3 v14).den (Nx Znm Zqm (0, 0, 0, 0, 0, 0) (fun r => True)) := by
 dsimp only [Zii, LT.den]
 refine tF (fun h1 => ?_) (fun h1 => ?_)
 ·exact tR trivial
 ·refine tE (fun h2 => ?_) (fun h2 => ?_)
  ·exact tR trivial
  ·refine tE (fun h3 => ?_) (fun h3 => ?_)
   ·exact tR trivial
   ·refine tE (fun h4 => ?_) (fun h4 => ?_)
    ·exact tR trivial
    ·refine tE (fun h5 => ?_) (fun h5 => ?_)
     ·exact tR trivial
     ·exact tR trivial
theorem Zn7 (v3 : Int) (v11 : Bool) (h : True) : Tot (Zk0 v3 v11).den (Nx Znm Zqm (0, 0, 0, 0, 0, 0) (fun r => True)) := by
 dsimp only [Zk0, LT.den]
 refine tF (fun h1 => ?_) (fun h1 => ?_)
 ·exact tR trivial
 ·refine tE (fun h2 => ?_) (fun h2 => ?_)
  ·exact tJ (Zjb v3 (v3 == 8) trivial)
  ·refine tE (fun h3 => ?_) (fun h3 => ?_)
   ·exact tJ (Zjb v3 (v3 == 9) trivial)
   ·exact tJ (Zjb v3 (v3 == 10) trivial)
theorem Zhe (v3 : Int) (v6 : Bool) (h : True) : Tot (Zha v3 v6).den (Nx Znm Zqm (0, 0, 0, 0, 0, 0) (fun r => True)) := by
 dsimp only [Zha, LT.den]
 refine tF (fun h1 => ?_) (fun h1 => ?_)
 ·exact tR trivial
 ·refine tE (fun h2 => ?_) (fun h2 => ?_)
  ·exact tJ (Zn7 v3 (v3 == 6) trivial)
  ·exact tJ (Zn7 v3 (v3 == 7) trivial)
theorem Zap6 (a0 : Int) : Tot (Zb8 a0) (fun r => True) := by
 unfold Zb8
 refine tX (Inv := Znm) (μ := Zqm) (m := (1000000, 0, 0, 0, 0, 0)) ?_ ?_
 ·dsimp only [Zae5, LT.den]
  refine tE (fun h1 => ?_) (fun h1 => ?_)
  ·exact tR trivial
  ·refine tE (fun h2 => ?_) (fun h2 => ?_)
   ·exact tJ (Zhe a0 (a0 == 2) trivial)
   ·refine tE (fun h3 => ?_) (fun h3 => ?_)
    ·exact tJ (Zhe a0 (a0 == 3) trivial)
    ·refine tE (fun h4 => ?_) (fun h4 => ?_)
     ·exact tJ (Zhe a0 (a0 == 4) trivial)
     ·exact tJ (Zhe a0 (a0 == 5) trivial)
 ·intro s hs
  cases s with
  | L0 v3 v6 => exact Zhe v3 v6 hs
  | L1 v3 v11 => exact Zn7 v3 v11 hs
  | L2 v3 v14 => exact Zjb v3 v14 hs
theorem Znn (a0 : Int) : Tot (Zb8 a0) (fun r => r = (Zb8 a0).getD 0) := (Tot.we (Zap6 a0)).mono fun r h => by rw [h.2]; rfl
def Zam4 : Zjo → Prop
 | .L0 v1 E0 v5 => (Z7 E0) ∧ (0 ≤ v5)
def Zrz : Zjo → M6
 | .L0 v1 E0 v5 => (1, ((E0.Mods.length : Int) - v5).toNat, 1000000, 0, 0, 0)
theorem Zam5 (a0 : Zm) (a1 : Int) (oa0 : Z7 a0) : Tot (Z1u a0 a1) (fun r => True) := by
 unfold Z1u
 refine tX (Inv := Zam4) (μ := Zrz) (m := (1000000, 0, 0, 0, 0, 0)) ?_ ?_
 ·dsimp only [Z69, LT.den]
  exact tL ⟨oa0, cl⟩ (by unfold Zrz lt6; dsimp only; omega)
 ·intro s hs
  cases s with
  | L0 v1 E0 v5 =>
   obtain ⟨O0, cv5⟩ := hs
   show Tot (Zre v1 E0 v5).den _
   dsimp only [Zre, LT.den]
   have q1 := O0.2.2.1
   refine tD (fun h2 => ?_) (fun h2 => ?_)
   ·refine tB (tI (by omega) (by omega)) (fun x3 h4 => ?_)
    have oh4 : Zat x3 := O0.2.2.2 x3 h4.1
    refine tB (Znn x3.Kind) (fun x5 h6 => ?_)
    have eh6_0 := h6
    refine tE (fun h7 => ?_) (fun h7 => ?_)
    ·exact tR trivial
    ·refine qw (v5 + 1) fun q8 q9 => ?_
     exact tL ⟨O0, cl⟩ (by unfold Zrz lt6; dsimp only; omega)
   ·exact tR trivial
def Zas2 (a0 : Zb) (a1 : Int) : Zmu → Prop
 | .L0 v1 E0 v5 => (E0 = a0) ∧ (Zq E0) ∧ (0 ≤ v5)
def Zyx : Zmu → M6
 | .L0 v1 E0 v5 => (1, ((E0.Objects.length : Int) - v5).toNat, 1000000, 0, 0, 0)
theorem Z7z (a0 : Zb) (a1 : Int) (oa0 : Zq a0) : Tot (Zaap a0 a1) (fun r => (-1 ≤ r) ∧ (r < a0.Objects.length)) := by
 unfold Zaap
 refine tX (Inv := (Zas2 a0 a1)) (μ := Zyx) (m := (1000000, 0, 0, 0, 0, 0)) ?_ ?_
 ·dsimp only [Zae7, LT.den]
  exact tL ⟨rfl, oa0, cl⟩ (by unfold Zyx lt6; dsimp only; omega)
 ·intro s hs
  cases s with
  | L0 v1 E0 v5 =>
   obtain ⟨al0, O0, cv5⟩ := hs
   subst al0
   show Tot (Zxx v1 E0 v5).den _
   dsimp only [Zxx, LT.den]
   have q1 := O0.2.1.1
   refine tD (fun h2 => ?_) (fun h2 => ?_)
   ·refine tB (tI (by omega) (by omega)) (fun x3 h4 => ?_)
    refine tE (fun h5 => ?_) (fun h5 => ?_)
    ·exact tR ⟨cl, cl⟩
    ·refine qw (v5 + 1) fun q6 q7 => ?_
     exact tL ⟨rfl, O0, cl⟩ (by unfold Zyx lt6; dsimp only; omega)
   ·exact tR ⟨cl, cl⟩
theorem Zlp (a0 : Zc) (a1 : Int) (oa0 : Zy a0) (h0 : a0.All.length = a0.S.Objects.length) (h1 : a0.Blank.length = a0.S.Objects.length) (h2 : a0.Begun.length = a0.L.length) (h3 : a0.Sets.length = a0.L.length) (h4 : a0.S.Objects.length ≤ 60) (h5 : a0.L.length ≤ 10000) (h6 : 0 ≤ a1) (h7 : a1 < a0.L.length) : Tot (Z5f a0 a1) (fun r => True) := by
 unfold Z5f
 refine tZ ?_
 dsimp only [Zaar, LT.den]
 refine tB (tI (by omega) (by omega)) (fun x1 h2 => ?_)
 have oh2 : Z7 x1 := oa0.2.2.1.2 x1 h2.1
 refine tF (fun h3 => ?_) (fun h3 => ?_)
 ·exact tR trivial
 ·refine tB (tI (by omega) (by omega)) (fun x4 h5 => ?_)
  refine tF (fun h6 => ?_) (fun h6 => ?_)
  ·exact tR trivial
  ·refine tB (Z7z a0.S x1.Source oa0.1) (fun x7 h8 => ?_)
   have eh8_0 := h8.1
   have eh8_1 := h8.2
   refine tD (fun h9 => ?_) (fun h9 => ?_)
   ·exact tR trivial
   ·refine tB (tI (by omega) (by omega)) (fun x10 h11 => ?_)
    exact tR trivial
def Zas3 (a0 : (List Int)) (a1 : Int) : Zmv → Prop
 | .L0 v0 v1 v5 => (v0 = a0) ∧ (v1 = a1) ∧ ((SzL 8 (fun _ => True)) v0) ∧ (0 ≤ v5) ∧ (∀ (k : Nat) x, (k : Int) < v5 → v0[k]? = some x → x ≠ v1)
def Zyy : Zmv → M6
 | .L0 v0 v1 v5 => (1, ((v0.length : Int) - v5).toNat, 1000000, 0, 0, 0)
theorem Zas4 (a0 : (List Int)) (a1 : Int) (oa0 : (SzL 8 (fun _ => True)) a0) : Tot (Zaat a0 a1) (fun r => (0 ≤ r ↔ a1 ∈ a0)) := by
 unfold Zaat
 refine tX (Inv := (Zas3 a0 a1)) (μ := Zyy) (m := (1000000, 0, 0, 0, 0, 0)) ?_ ?_
 ·have lb_a0 := oa0.1
  dsimp only [Zae9, LT.den]
  exact tL ⟨rfl, rfl, oa0, cl, tk25⟩ (by unfold Zyy lt6; dsimp only; omega)
 ·intro s hs
  cases s with
  | L0 v0 v1 v5 =>
   obtain ⟨al0, al1, ov0, cv5, i0⟩ := hs
   have lb_v0 := ov0.1
   subst al0
   subst al1
   show Tot (Zxy v0 v1 v5).den _
   dsimp only [Zxy, LT.den]
   have q1 := ov0.1
   refine tD (fun h2 => ?_) (fun h2 => ?_)
   ·refine tB (tI (by omega) (by omega)) (fun x3 h4 => ?_)
    have mh4 := h4.2
    refine tE (fun h5 => ?_) (fun h5 => ?_)
    ·exact tR Zatq
    ·refine qw (v5 + 1) fun q6 q7 => ?_
     exact tL ⟨rfl, rfl, ov0, cl, tk25⟩ (by unfold Zyy lt6; dsimp only; omega)
   ·exact tR Zatq
theorem Zafz (a0 : (List Int)) (a1 : Int) (oa0 : (SzL 8 (fun _ => True)) a0) : Tot (Zao5 a0 a1) (fun r => (r = true ↔ a1 ∈ a0)) := by
 unfold Zao5
 refine tZ ?_
 have lb_a0 := oa0.1
 dsimp only [Zaq6, LT.den]
 refine tB (Zas4 a0 a1 oa0) (fun x1 h2 => ?_)
 have eh2_0 := h2
 exact tR (by grind)
theorem Zsi (a0 : Zc) (a1 : Int) (oa0 : Zy a0) (h0 : a0.All.length = a0.S.Objects.length) (h1 : a0.Blank.length = a0.S.Objects.length) (h2 : a0.Begun.length = a0.L.length) (h3 : a0.Sets.length = a0.L.length) (h4 : a0.S.Objects.length ≤ 60) (h5 : a0.L.length ≤ 10000) (h6 : 0 ≤ a1) (h7 : a1 < a0.L.length) : Tot (Zao6 a0 a1) (fun r => True) := by
 unfold Zao6
 refine tZ ?_
 dsimp only [Zaq8, LT.den]
 refine tB (tI (by omega) (by omega)) (fun x1 h2 => ?_)
 have oh2 : Z7 x1 := oa0.2.2.1.2 x1 h2.1
 refine tB (Z7z a0.S x1.Source oa0.1) (fun x3 h4 => ?_)
 have eh4_0 := h4.1
 have eh4_1 := h4.2
 refine tF (fun h5 => ?_) (fun h5 => ?_)
 ·exact tR trivial
 ·refine tD (fun h6 => ?_) (fun h6 => ?_)
  ·exact tR trivial
  ·refine tB (tI (by omega) (by omega)) (fun x7 h8 => ?_)
   have oh8 : Zt x7 := oa0.2.1.2 x7 h8.1
   exact tR trivial
theorem Zazo (a0 : Int) (a1 : Int) (a2 : Int) : Tot (Z3u a0 a1 a2) (fun r => True) := by
 unfold Z3u
 refine tZ ?_
 dsimp only [Zaau, LT.den]
 refine tE (fun h1 => ?_) (fun h1 => ?_)
 ·exact tR trivial
 ·refine tN (fun h2 => ?_) (fun h2 => ?_)
  ·exact tR trivial
  ·exact tR trivial
theorem Zaya (a0 : Int) (a1 : Int) (a2 : Int) : Tot (Zxz a0 a1 a2) (fun r => True) := by
 unfold Zxz
 refine tZ ?_
 dsimp only [Z5g, LT.den]
 refine tE (fun h1 => ?_) (fun h1 => ?_)
 ·exact tR trivial
 ·refine tN (fun h2 => ?_) (fun h2 => ?_)
  ·exact tR trivial
  ·exact tR trivial
theorem Zazp (a0 : Bool) (a1 : Int) : Tot (Z3v a0 a1) (fun r => True) := by
 unfold Z3v
 refine tZ ?_
 dsimp only [Zaav, LT.den]
 refine tE (fun h1 => ?_) (fun h1 => ?_)
 ·exact tR trivial
 ·refine tN (fun h2 => ?_) (fun h2 => ?_)
  ·exact tR trivial
  ·exact tR trivial
theorem Zez (a0 : Int) (a1 : Int) : Tot (Zmw a0 a1) (fun r => True) := by
 unfold Zmw
 refine tZ ?_
 dsimp only [Z7b, LT.den]
 exact tR trivial
theorem Z4b (a0 : Zu) (a1 : (List UInt8)) (oa0 : Zdc a0) (oa1 : SzT a1) : Tot (Zpz a0 a1) (fun r => True) := by
 unfold Zpz
 refine tZ ?_
 have lb_a1 : a1.length ≤ 562949953421312 := oa1
 dsimp only [Zx0, LT.den]
 refine tB (Zur a0.Subs a1 oa0 oa1) (fun x1 h2 => ?_)
 exact tR trivial
theorem Zaf0 (a0 : Int) (a1 : Int) : Tot (Zacu a0 a1) (fun r => True) := by
 unfold Zacu
 refine tZ ?_
 dsimp only [Zarc, LT.den]
 exact tR trivial
theorem Zjy (a0 : Zd) (a1 : Int) : Tot (Ztr a0 a1) (fun r => True) := by
 unfold Ztr
 refine tZ ?_
 dsimp only [Z1v, LT.den]
 refine tE (fun h1 => ?_) (fun h1 => ?_)
 ·exact tR trivial
 ·refine tE (fun h2 => ?_) (fun h2 => ?_)
  ·exact tR trivial
  ·refine tE (fun h3 => ?_) (fun h3 => ?_)
   ·exact tR trivial
   ·refine tE (fun h4 => ?_) (fun h4 => ?_)
    ·exact tR trivial
    ·exact tR trivial
theorem Z2l (a0 : Int) (a1 : Int) : Tot (Z3w a0 a1) (fun r => (r = muV a0 a1)) := by
 unfold Z3w
 refine tZ ?_
 dsimp only [Zaax, LT.den]
 refine tB (Zc9 a0) (fun x1 h2 => ?_)
 have eh2_0 := h2
 refine tB (Zc9 a1) (fun x3 h4 => ?_)
 have eh4_0 := h4
 refine qw (x1 * x3) fun q5 q6 => ?_
 refine tB (Zc9 (IntKind.wrap .i64 (x1 * x3))) (fun x7 h8 => ?_)
 have eh8_0 := h8
 exact tR (by unfold muV; grind)
def Zas5 : Zmx → Prop
 | .L0 v1 E0 v5 v6 => (0 ≤ v6) ∧ True
def Zyz : Zmx → M6
 | .L0 v1 E0 v5 v6 => (1, (5 - v6).toNat, 1000000, 0, 0, 0)
theorem Zvd (a0 : Zp) (a1 : Int) : Tot (Zts a0 a1) (fun r => True) := by
 unfold Zts
 refine tX (Inv := Zas5) (μ := Zyz) (m := (1000000, 0, 0, 0, 0, 0)) ?_ ?_
 ·dsimp only [Z1w, LT.den]
  refine tB (Zqc a0) (fun x1 h2 => ?_)
  have eh2_0 := h2.1
  have eh2_1 := h2.2
  refine tO (fun h3 => ?_) (fun h3 => ?_)
  ·exact tR trivial
  ·have h3_0 := eh2_0 h3
   have h3_1 := eh2_1 h3
   exact tL ⟨cl, trivial⟩ (by unfold Zyz lt6; dsimp only; omega)
 ·intro s hs
  cases s with
  | L0 v1 E0 v5 v6 =>
   obtain ⟨cv6, _⟩ := hs
   show Tot (Zhb v1 E0 v5 v6).den _
   dsimp only [Zhb, LT.den]
   refine tD (fun h1 => ?_) (fun h1 => ?_)
   ·refine tB (tI (by omega) tk53) (fun x2 h3 => ?_)
    refine tB (Zh2 v5 x2) (fun x4 h5 => ?_)
    refine qw (v6 + 1) fun q6 q7 => ?_
    exact tL ⟨cl, trivial⟩ (by unfold Zyz lt6; dsimp only; omega)
   ·refine tD (fun h8 => ?_) (fun h8 => ?_)
    ·refine tB (Z2l E0.X 0) (fun x9 h10 => ?_)
     have eh10_0 := h10
     refine tB (Zh2 v5 x9) (fun x11 h12 => ?_)
     exact tR trivial
    ·refine tB (Z2l E0.X v1) (fun x13 h14 => ?_)
     have eh14_0 := h14
     refine tB (Zh2 v5 x13) (fun x15 h16 => ?_)
     exact tR trivial
def Zr0 : Zk2 → Prop
 | .L0 E0 E1 v5 => (Zt E0) ∧ (Zan E1)
def Z70 : Zk2 → M6
 | .L0 E0 E1 v5 => (0, 0, 0, 0, 0, 0)
theorem Zh8 (E0 : Za) (E1 : Ze) (v5 : Bool) (h : Zr0 (.L0 E0 E1 v5)) : Tot (Ze4 E0 E1 v5).den (Nx Zr0 Z70 (0, 0, 0, 0, 0, 0) (fun r => True)) := by
 obtain ⟨O0, O1⟩ := h
 dsimp only [Ze4, LT.den]
 refine tN (fun h1 => ?_) (fun h1 => ?_)
 ·refine tF (fun h2 => ?_) (fun h2 => ?_)
  ·refine tB (Zjy E1.Tough E0.Tough) (fun x3 h4 => ?_)
   refine tO (fun h5 => ?_) (fun h5 => ?_)
   ·exact tR trivial
   ·refine tB (Zvd E0.Cost 0) (fun x6 h7 => ?_)
    refine tB (Zjy E1.Value x6) (fun x8 h9 => ?_)
    exact tR trivial
  ·refine tO (fun h10 => ?_) (fun h10 => ?_)
   ·exact tR trivial
   ·refine tB (Zvd E0.Cost 0) (fun x11 h12 => ?_)
    refine tB (Zjy E1.Value x11) (fun x13 h14 => ?_)
    exact tR trivial
 ·refine tB (Zvd E0.Cost 0) (fun x15 h16 => ?_)
  refine tB (Zjy E1.Value x15) (fun x17 h18 => ?_)
  exact tR trivial
theorem Z4c (a0 : Za) (a1 : Ze) (oa0 : Zt a0) (oa1 : Zan a1) : Tot (Zp0 a0 a1) (fun r => True) := by
 unfold Zp0
 refine tX (Inv := Zr0) (μ := Z70) (m := (1000000, 0, 0, 0, 0, 0)) ?_ ?_
 ·dsimp only [Zx2, LT.den]
  refine tB (Zez a0.Line.Types 1) (fun x1 h2 => ?_)
  refine tN (fun h3 => ?_) (fun h3 => ?_)
  ·refine tF (fun h4 => ?_) (fun h4 => ?_)
   ·refine tB (Zjy a1.Power a0.Power) (fun x5 h6 => ?_)
    refine tO (fun h7 => ?_) (fun h7 => ?_)
    ·exact tR trivial
    ·exact tJ (Zh8 a0 a1 x1 ⟨oa0, oa1⟩)
   ·refine tO (fun h8 => ?_) (fun h8 => ?_)
    ·exact tR trivial
    ·exact tJ (Zh8 a0 a1 x1 ⟨oa0, oa1⟩)
  ·exact tJ (Zh8 a0 a1 x1 ⟨oa0, oa1⟩)
 ·intro s hs
  cases s with
  | L0 E0 E1 v5 => exact Zh8 E0 E1 v5 hs
def Ziq : Zij → Prop
 | .L0 E0 E1 => (Zt E0) ∧ (Zan E1)
 | .L1 E0 E1 => (Zt E0) ∧ (Zan E1)
def Zve : Zij → M6
 | .L0 E0 E1 => (0, 0, 0, 0, 0, 0)
 | .L1 E0 E1 => (0, 0, 0, 0, 0, 0)
theorem Zl6 (E0 : Za) (E1 : Ze) (h : Ziq (.L1 E0 E1)) : Tot (Zf6 E0 E1).den (Nx Ziq Zve (0, 0, 0, 0, 0, 0) (fun r => True)) := by
 obtain ⟨O0, O1⟩ := h
 dsimp only [Zf6, LT.den]
 refine tO (fun h1 => ?_) (fun h1 => ?_)
 ·refine tB (Z4b E0.Line E1.Sub O0.2.1 (SzS.t O1)) (fun x2 h3 => ?_)
  refine tO (fun h4 => ?_) (fun h4 => ?_)
  ·exact tR trivial
  ·refine tB (Zaf0 E0.Keys E1.Keys) (fun x5 h6 => ?_)
   refine tO (fun h7 => ?_) (fun h7 => ?_)
   ·exact tR trivial
   ·refine tB (Z4c E0 E1 O0 O1) (fun x8 h9 => ?_)
    exact tR trivial
 ·refine tB (Zaf0 E0.Keys E1.Keys) (fun x10 h11 => ?_)
  refine tO (fun h12 => ?_) (fun h12 => ?_)
  ·exact tR trivial
  ·refine tB (Z4c E0 E1 O0 O1) (fun x13 h14 => ?_)
   exact tR trivial
theorem Zl7 (E0 : Za) (E1 : Ze) (h : Ziq (.L0 E0 E1)) : Tot (Zf7 E0 E1).den (Nx Ziq Zve (0, 0, 0, 0, 0, 0) (fun r => True)) := by
 obtain ⟨O0, O1⟩ := h
 dsimp only [Zf7, LT.den]
 refine tN (fun h1 => ?_) (fun h1 => ?_)
 ·refine tB (Zez E0.Colors E1.Colors) (fun x2 h3 => ?_)
  refine tO (fun h4 => ?_) (fun h4 => ?_)
  ·exact tR trivial
  ·refine tB (Zez E0.Colors E1.NotColors) (fun x5 h6 => ?_)
   refine tF (fun h7 => ?_) (fun h7 => ?_)
   ·exact tR trivial
   ·exact tJ (Zl6 E0 E1 ⟨O0, O1⟩)
 ·refine tB (Zez E0.Colors E1.NotColors) (fun x8 h9 => ?_)
  refine tF (fun h10 => ?_) (fun h10 => ?_)
  ·exact tR trivial
  ·exact tJ (Zl6 E0 E1 ⟨O0, O1⟩)
theorem Z4d (a0 : Zf) (a1 : Za) (a2 : Int) (a3 : Int) (a4 : Ze) (oa1 : Zt a1) (oa4 : Zan a4) : Tot (Zp2 a0 a1 a2 a3 a4) (fun r => True) := by
 unfold Zp2
 refine tX (Inv := Ziq) (μ := Zve) (m := (1000000, 0, 0, 0, 0, 0)) ?_ ?_
 ·dsimp only [Zx4, LT.den]
  refine tB (Zdv a4 oa4) (fun x1 h2 => ?_)
  have eh2_0 := h2.1
  have eh2_1 := h2.2
  refine tO (fun h3 => ?_) (fun h3 => ?_)
  ·exact tR trivial
  ·have h3_0 := eh2_0 h3
   refine tN (fun h4 => ?_) (fun h4 => ?_)
   ·exact tR trivial
   ·refine tB (Zazo a1.Control a2 a4.Who) (fun x5 h6 => ?_)
    refine tO (fun h7 => ?_) (fun h7 => ?_)
    ·exact tR trivial
    ·refine tB (Zaya a0.Id a3 a4.Self) (fun x8 h9 => ?_)
     refine tO (fun h10 => ?_) (fun h10 => ?_)
     ·exact tR trivial
     ·refine tB (Zazp a0.Tapped a4.Tap) (fun x11 h12 => ?_)
      refine tO (fun h13 => ?_) (fun h13 => ?_)
      ·exact tR trivial
      ·refine tN (fun h14 => ?_) (fun h14 => ?_)
       ·refine tB (Zez a1.Line.Types a4.Types) (fun x15 h16 => ?_)
        refine tO (fun h17 => ?_) (fun h17 => ?_)
        ·exact tR trivial
        ·refine tB (Zez a1.Line.Types a4.NotTypes) (fun x18 h19 => ?_)
         refine tF (fun h20 => ?_) (fun h20 => ?_)
         ·exact tR trivial
         ·exact tJ (Zl7 a1 a4 ⟨oa1, oa4⟩)
       ·refine tB (Zez a1.Line.Types a4.NotTypes) (fun x21 h22 => ?_)
        refine tF (fun h23 => ?_) (fun h23 => ?_)
        ·exact tR trivial
        ·exact tJ (Zl7 a1 a4 ⟨oa1, oa4⟩)
 ·intro s hs
  cases s with
  | L0 E0 E1 => exact Zl7 E0 E1 hs
  | L1 E0 E1 => exact Zl6 E0 E1 hs
def Zam6 : Zjp → Prop
 | .L0 v1 E0 v5 E1 v7 => (Zy E0) ∧ ((SzL 8 (fun _ => True)) v5) ∧ (Z7 E1) ∧ (0 ≤ v7) ∧ (E0.All.length = E0.S.Objects.length) ∧ (E0.Blank.length = E0.S.Objects.length) ∧ (E0.Begun.length = E0.L.length) ∧ (E0.Sets.length = E0.L.length) ∧ (E0.S.Objects.length ≤ 60) ∧ (E0.L.length ≤ 10000) ∧ (0 ≤ v1) ∧ (v1 < E0.L.length) ∧ (v5.length ≤ v7.toNat) ∧ (v7.toNat ≤ E0.S.Objects.length)
def Z4e : Zjp → M6
 | .L0 v1 E0 v5 E1 v7 => (1, ((E0.S.Objects.length : Int) - v7).toNat, 1000000, 0, 0, 0)
theorem Zqn (a0 : Zc) (a1 : Int) (oa0 : Zy a0) (h0 : a0.All.length = a0.S.Objects.length) (h1 : a0.Blank.length = a0.S.Objects.length) (h2 : a0.Begun.length = a0.L.length) (h3 : a0.Sets.length = a0.L.length) (h4 : a0.S.Objects.length ≤ 60) (h5 : a0.L.length ≤ 10000) (h6 : 0 ≤ a1) (h7 : a1 < a0.L.length) : Tot (Z1x a0 a1) (fun r => ((SzL 8 (fun _ => True)) r)) := by
 unfold Z1x
 refine tX (Inv := Zam6) (μ := Z4e) (m := (1000000, 0, 0, 0, 0, 0)) ?_ ?_
 ·dsimp only [Z7f, LT.den]
  refine tB (tI (by omega) (by omega)) (fun x1 h2 => ?_)
  refine tF (fun h3 => ?_) (fun h3 => ?_)
  ·refine tB (tI (by omega) (by omega)) (fun x4 h5 => ?_)
   have oh5 : (SzL 8 (fun _ => True)) x4 := oa0.2.2.2.2.1.2 x4 h5.1
   exact tR oh5
  ·refine tB (Zlp a0 a1 oa0 cl cl cl cl cl cl cl cl) (fun x6 h7 => ?_)
   refine tO (fun h8 => ?_) (fun h8 => ?_)
   ·exact tR SzL.nil
   ·refine tB (tI (by omega) (by omega)) (fun x9 h10 => ?_)
    have oh10 : Z7 x9 := oa0.2.2.1.2 x9 h10.1
    exact tL ⟨oa0, SzL.nil, oh10, cl, cl, cl, cl, cl, cl, cl, cl, cl, cl, cl⟩ Z5x
 ·intro s hs
  cases s with
  | L0 v1 E0 v5 E1 v7 =>
   obtain ⟨O0, ov5, O1, cv7, i0, i1, i2, i3, i4, i5, i6, i7, i8, i9⟩ := hs
   have lb_v5 := ov5.1
   show Tot (Zrf v1 E0 v5 E1 v7).den _
   dsimp only [Zrf, LT.den]
   have q1 := O0.1.2.1.1
   refine tD (fun h2 => ?_) (fun h2 => ?_)
   ·refine tB (tI (by omega) (by omega)) (fun x3 h4 => ?_)
    refine tN (fun h5 => ?_) (fun h5 => ?_)
    ·refine qw (v7 + 1) fun q6 q7 => ?_
     exact tL ⟨O0, ov5, O1, cl, cl, cl, cl, cl, cl, cl, cl, cl, cl, cl⟩ Z5x
    ·refine tF (fun h8 => ?_) (fun h8 => ?_)
     ·refine tB (Zafz E1.Objects x3.Id O1.1) (fun x9 h10 => ?_)
      have eh10_0 := h10
      refine tF (fun h11 => ?_) (fun h11 => ?_)
      ·have q12 : (SzL 8 (fun _ => True)) ([x3.Id] : (List Int)) := ⟨by simp only [List.length_cons, List.length_nil]; omega, fun _ _ => trivial⟩
       have q15 := ov5.1
       refine tB (tA Zdt (by decide)) (fun x13 h14 => ?_)
       have lh14 : x13.length = v5.length + 1 := by rw [h14, List.length_append]; rfl
       refine qw (v7 + 1) fun q16 q17 => ?_
       exact tL ⟨O0, ⟨lo, fun _ _ => trivial⟩, O1, cl, cl, cl, cl, cl, cl, cl, cl, cl, cl, cl⟩ Z5x
      ·refine tO (fun h18 => ?_) (fun h18 => ?_)
       ·refine tB (tI (by omega) (by omega)) (fun x19 h20 => ?_)
        have oh20 : Zt x19 := O0.2.1.2 x19 h20.1
        refine tB (Zsi E0 v1 O0 cl cl cl cl cl cl cl cl) (fun x21 h22 => ?_)
        refine tB (Z4d x3 x19 x21 E1.Source E1.Filter oh20 O1.2.1) (fun x23 h24 => ?_)
        refine tF (fun h25 => ?_) (fun h25 => ?_)
        ·have q26 : (SzL 8 (fun _ => True)) ([x3.Id] : (List Int)) := ⟨by simp only [List.length_cons, List.length_nil]; omega, fun _ _ => trivial⟩
         have q29 := ov5.1
         refine tB (tA Zdt (by decide)) (fun x27 h28 => ?_)
         have lh28 : x27.length = v5.length + 1 := by rw [h28, List.length_append]; rfl
         refine qw (v7 + 1) fun q30 q31 => ?_
         exact tL ⟨O0, ⟨lo, fun _ _ => trivial⟩, O1, cl, cl, cl, cl, cl, cl, cl, cl, cl, cl, cl⟩ Z5x
        ·refine qw (v7 + 1) fun q32 q33 => ?_
         exact tL ⟨O0, ov5, O1, cl, cl, cl, cl, cl, cl, cl, cl, cl, cl, cl⟩ Z5x
       ·refine qw (v7 + 1) fun q34 q35 => ?_
        exact tL ⟨O0, ov5, O1, cl, cl, cl, cl, cl, cl, cl, cl, cl, cl, cl⟩ Z5x
     ·refine tO (fun h36 => ?_) (fun h36 => ?_)
      ·refine tB (tI (by omega) (by omega)) (fun x37 h38 => ?_)
       have oh38 : Zt x37 := O0.2.1.2 x37 h38.1
       refine tB (Zsi E0 v1 O0 cl cl cl cl cl cl cl cl) (fun x39 h40 => ?_)
       refine tB (Z4d x3 x37 x39 E1.Source E1.Filter oh38 O1.2.1) (fun x41 h42 => ?_)
       refine tF (fun h43 => ?_) (fun h43 => ?_)
       ·have q44 : (SzL 8 (fun _ => True)) ([x3.Id] : (List Int)) := ⟨by simp only [List.length_cons, List.length_nil]; omega, fun _ _ => trivial⟩
        have q47 := ov5.1
        refine tB (tA Zdt (by decide)) (fun x45 h46 => ?_)
        have lh46 : x45.length = v5.length + 1 := by rw [h46, List.length_append]; rfl
        refine qw (v7 + 1) fun q48 q49 => ?_
        exact tL ⟨O0, ⟨lo, fun _ _ => trivial⟩, O1, cl, cl, cl, cl, cl, cl, cl, cl, cl, cl, cl⟩ Z5x
       ·refine qw (v7 + 1) fun q50 q51 => ?_
        exact tL ⟨O0, ov5, O1, cl, cl, cl, cl, cl, cl, cl, cl, cl, cl, cl⟩ Z5x
      ·refine qw (v7 + 1) fun q52 q53 => ?_
       exact tL ⟨O0, ov5, O1, cl, cl, cl, cl, cl, cl, cl, cl, cl, cl, cl⟩ Z5x
   ·exact tR ov5
theorem Zy0 (a0 : Zb) (a1 : List Za) (a2 a3 : Int) (a4 : Ze) (oa0 : Zq a0) (oa1 : (SzL 176 Zt) a1) (oa4 : Zan a4) : Tot (Zx5 a0 a1 a2 a3 a4) (fun r => ((SzL 8 (fun _ => True)) r) ∧ (r = Zh7 a0 a1 a2 a3 a4)) :=
 ⟨_, Zazi a0 a1 a2 a3 a4 oa0.2.1.1 fun t ht => Za0i (oa1.2 t ht), Zax8 oa0, rfl⟩
abbrev Zaib (a0 : Zc) (a1 : Int) (a2 : Int) (r : (List Int)) : Prop := ((SzL 8 (fun _ => True)) r) ∧ (∀ f, a0.L[a1.toNat]? = some f → r.length = (f.Mods.filter fun m => (Zb8 m.Kind).getD 0 == a2).length)
def Zam7 (a0 : Zc) (a1 : Int) (a2 : Int) : Zjq → Prop
 | .L0 v1 v2 E0 v7 E1 v9 => (E0 = a0) ∧ (v1 = a1) ∧ (v2 = a2) ∧ (Zy E0) ∧ ((SzL 8 (fun _ => True)) v7) ∧ (Z7 E1) ∧ (0 ≤ v9) ∧ (E0.All.length = E0.S.Objects.length) ∧ (E0.Blank.length = E0.S.Objects.length) ∧ (E0.Begun.length = E0.L.length) ∧ (E0.Sets.length = E0.L.length) ∧ (E0.S.Objects.length ≤ 60) ∧ (E0.L.length ≤ 10000) ∧ (0 ≤ v1) ∧ (v1 < E0.L.length) ∧ (v7.length ≤ v9.toNat) ∧ (v9.toNat ≤ E1.Mods.length) ∧ (E0.L[v1.toNat]? = some E1) ∧ (v7.length = cnt (fun m => (Zb8 m.Kind).getD 0 == v2) E1.Mods v9)
def Z4f : Zjq → M6
 | .L0 v1 v2 E0 v7 E1 v9 => (1, ((E1.Mods.length : Int) - v9).toNat, 1000000, 0, 0, 0)
theorem Zqo (a0 : Zc) (a1 : Int) (a2 : Int) (oa0 : Zy a0) (h0 : a0.All.length = a0.S.Objects.length) (h1 : a0.Blank.length = a0.S.Objects.length) (h2 : a0.Begun.length = a0.L.length) (h3 : a0.Sets.length = a0.L.length) (h4 : a0.S.Objects.length ≤ 60) (h5 : a0.L.length ≤ 10000) (h6 : 0 ≤ a1) (h7 : a1 < a0.L.length) : Tot (Zsd a0 a1 a2) (Zaib a0 a1 a2) := by
 unfold Zsd
 refine tX (Inv := (Zam7 a0 a1 a2)) (μ := Z4f) (m := (1000000, 0, 0, 0, 0, 0)) ?_ ?_
 ·dsimp only [Z7h, LT.den]
  refine tB (tI (by omega) (by omega)) (fun x1 h2 => ?_)
  have oh2 : Z7 x1 := oa0.2.2.1.2 x1 h2.1
  have mh2 := h2.2
  exact tL ⟨rfl, rfl, rfl, oa0, SzL.nil, oh2, cl, cl, cl, cl, cl, cl, cl, cl, cl, cl, cl, (by assumption), tk10⟩ tk70
 ·intro s hs
  cases s with
  | L0 v1 v2 E0 v7 E1 v9 =>
   obtain ⟨al0, al1, al2, O0, ov7, O1, cv9, i0, i1, i2, i3, i4, i5, i6, i7, i8, i9, i10, i11⟩ := hs
   have lb_v7 := ov7.1
   subst al0
   subst al1
   subst al2
   show Tot (Zrh v1 v2 E0 v7 E1 v9).den _
   dsimp only [Zrh, LT.den]
   have q1 := O1.2.2.1
   refine tD (fun h2 => ?_) (fun h2 => ?_)
   ·refine tB (tI (by omega) (by omega)) (fun x3 h4 => ?_)
    have oh4 : Zat x3 := O1.2.2.2 x3 h4.1
    have mh4 := h4.2
    refine tB (Znn x3.Kind) (fun x5 h6 => ?_)
    have eh6_0 := h6
    refine tN (fun h7 => ?_) (fun h7 => ?_)
    ·refine qw (v9 + 1) fun q8 q9 => ?_
     exact tL ⟨rfl, rfl, rfl, O0, ov7, O1, cl, cl, cl, cl, cl, cl, cl, cl, cl, cl, cl, (by assumption), tk10⟩ tk70
    ·refine tE (fun h10 => ?_) (fun h10 => ?_)
     ·refine tB (Zsi E0 v1 O0 cl cl cl cl cl cl cl cl) (fun x11 h12 => ?_)
      refine tB (Zy0 E0.S E0.All x11 E1.Source x3.Filter O0.1 O0.2.1 oh4.2) (fun x13 h14 => ?_)
      have eh14_1 := h14.2
      have q15 := h14.1.1
      have q16 : (SzL 8 (fun _ => True)) ([(x13.length : Int)] : (List Int)) := ⟨by simp only [List.length_cons, List.length_nil]; omega, fun _ _ => trivial⟩
      have q19 := ov7.1
      refine tB (tA Zdt (by decide)) (fun x17 h18 => ?_)
      have lh18 : x17.length = v7.length + 1 := by rw [h18, List.length_append]; rfl
      refine qw (v9 + 1) fun q20 q21 => ?_
      exact tL ⟨rfl, rfl, rfl, O0, ⟨lo, fun _ _ => trivial⟩, O1, cl, cl, cl, cl, cl, cl, cl, cl, cl, cl, cl, (by assumption), tk10⟩ tk70
     ·have q22 : (SzL 8 (fun _ => True)) ([0] : (List Int)) := ⟨by simp only [List.length_cons, List.length_nil]; omega, fun _ _ => trivial⟩
      have q25 := ov7.1
      refine tB (tA Zdt (by decide)) (fun x23 h24 => ?_)
      have lh24 : x23.length = v7.length + 1 := by rw [h24, List.length_append]; rfl
      refine qw (v9 + 1) fun q26 q27 => ?_
      exact tL ⟨rfl, rfl, rfl, O0, ⟨lo, fun _ _ => trivial⟩, O1, cl, cl, cl, cl, cl, cl, cl, cl, cl, cl, cl, (by assumption), tk10⟩ tk70
   ·exact tR ⟨ov7, (by intro f hf; cases hf.symm.trans (by assumption : _ = some E1); rw [← Za76 (v := v9) (by omega)]; assumption)⟩
def Zr1 : Zik → Prop
 | .L0 v1 E0 E1 v5 v6 => (SzT v1) ∧ (Zdc E0) ∧ (Zdc E1) ∧ ((SzL 16 SzT) v5) ∧ (0 ≤ v6) ∧ (v6.toNat ≤ v5.length) ∧ (v5.length ≤ 4)
 | .L1 v1 E0 E1 v5 v6 => (SzT v1) ∧ (Zdc E0) ∧ (Zdc E1) ∧ ((SzL 16 SzT) v5) ∧ (0 ≤ v6) ∧ (v6.toNat ≤ v5.length) ∧ (v5.length ≤ 4)
def Zjz : Zik → M6
 | .L0 v1 E0 E1 v5 v6 => (1, ((v5.length : Int) - v6).toNat, 1000000, 0, 0, 0)
 | .L1 v1 E0 E1 v5 v6 => (0, 0, 0, 0, 0, 0)
theorem Zl8 (v1 : (List UInt8)) (E0 : Zu) (E1 : Zu) (v5 : (List (List UInt8))) (v6 : Int) (h : Zr1 (.L1 v1 E0 E1 v5 v6)) : Tot (Zjr v1 E0 E1 v5 v6).den (Nx Zr1 Zjz (0, 0, 0, 0, 0, 0) (fun r => (Zdc r))) := by
 obtain ⟨ov1, O0, O1, ov5, i0, i1, i2⟩ := h
 have lb_v1 : v1.length ≤ 562949953421312 := ov1
 have lb_v5 := ov5.1
 dsimp only [Zjr, LT.den]
 have q3 := ov5.1
 refine tB (Tot.slice (by omega) (by omega) (by omega)) (fun x1 h2 => ?_)
 have lh2 := h2.1
 have q6 : x1.length * 16 ≤ 140737488351232 := (show SzL 16 SzT x1 from ⟨lo, fun e he => ov5.2 e (h2.2.1 e he)⟩).1
 refine tB (tA Zn2 (by decide)) (fun x4 h5 => ?_)
 have lh5 : x4.length = ([] : (List (List UInt8))).length + x1.length := by rw [h5, List.length_append]
 try simp only [List.length_cons, List.length_nil, Nat.zero_add] at lh5
 have q7 : (SzL 16 SzT) ([v1] : (List (List UInt8))) := ⟨by simp only [List.length_cons, List.length_nil]; omega, (mem_cons' ov1 (fun _ h => by cases h))⟩
 have q10 := (SzL.app (k := 16) h5 lo (fun _ h => by cases h) (show SzL _ SzT _ from ⟨lo, fun e he => ov5.2 e (h2.2.1 e he)⟩).2).1
 refine tB (tA Zdt (by decide)) (fun x8 h9 => ?_)
 have lh9 : x8.length = x4.length + 1 := by rw [h9, List.length_append]; rfl
 refine tB (Tot.slice (by omega) (by omega) (by omega)) (fun x11 h12 => ?_)
 have lh12 := h12.1
 have q15 := (SzL.app (k := 16) h9 lo (SzL.app (k := 16) h5 lo (fun _ h => by cases h) (show SzL _ SzT _ from ⟨lo, fun e he => ov5.2 e (h2.2.1 e he)⟩).2).2 q7.2).1
 have q16 : x11.length * 16 ≤ 140737488351232 := (show SzL 16 SzT x11 from ⟨lo, fun e he => ov5.2 e (h12.2.1 e he)⟩).1
 refine tB (tA Zn2 (by decide)) (fun x13 h14 => ?_)
 have lh14 : x13.length = x8.length + x11.length := by rw [h14, List.length_append]
 try simp only [List.length_cons, List.length_nil, Nat.zero_add] at lh14
 exact tR (SzL.app (k := 16) h14 lo (SzL.app (k := 16) h9 lo (SzL.app (k := 16) h5 lo (fun _ h => by cases h) (show SzL _ SzT _ from ⟨lo, fun e he => ov5.2 e (h2.2.1 e he)⟩).2).2 q7.2).2 (show SzL _ SzT _ from ⟨lo, fun e he => ov5.2 e (h12.2.1 e he)⟩).2)
theorem Zap7 (a0 : Zu) (a1 : (List UInt8)) (oa0 : Zdc a0) (oa1 : SzT a1) : Tot (Z5k a0 a1) (fun r => (Zdc r)) := by
 unfold Z5k
 refine tX (Inv := Zr1) (μ := Zjz) (m := (1000000, 0, 0, 0, 0, 0)) ?_ ?_
 ·have lb_a1 : a1.length ≤ 562949953421312 := oa1
  dsimp only [Zaay, LT.den]
  have q3 := oa0.1
  refine tB (tA Zn2 (by decide)) (fun x1 h2 => ?_)
  have lh2 : x1.length = ([] : (List (List UInt8))).length + a0.Subs.length := by rw [h2, List.length_append]
  try simp only [List.length_cons, List.length_nil, Nat.zero_add] at lh2
  refine tB (Znc a1 oa1) (fun x4 h5 => ?_)
  refine tO (fun h6 => ?_) (fun h6 => ?_)
  ·exact tR (SzL.app (k := 16) h2 lo (fun _ h => by cases h) oa0.2)
  ·refine tB (Z4b a0 a1 oa0 oa1) (fun x7 h8 => ?_)
   refine tF (fun h9 => ?_) (fun h9 => ?_)
   ·exact tR (SzL.app (k := 16) h2 lo (fun _ h => by cases h) oa0.2)
   ·have q10 := (SzL.app (k := 16) h2 lo (fun _ h => by cases h) oa0.2).1
    refine tD (fun h11 => ?_) (fun h11 => ?_)
    ·exact tR (SzL.app (k := 16) h2 lo (fun _ h => by cases h) oa0.2)
    ·exact tL ⟨oa1, oa0, SzL.nil, (SzL.app (k := 16) h2 lo (fun _ h => by cases h) oa0.2), cl, cl, cl⟩ (by unfold Zjz lt6; dsimp only; omega)
 ·intro s hs
  cases s with
  | L0 v1 E0 E1 v5 v6 =>
   obtain ⟨ov1, O0, O1, ov5, i0, i1, i2⟩ := hs
   have lb_v1 : v1.length ≤ 562949953421312 := ov1
   have lb_v5 := ov5.1
   show Tot (Zuj v1 E0 E1 v5 v6).den _
   dsimp only [Zuj, LT.den, Zjz]
   have q1 := ov5.1
   refine tD (fun h2 => ?_) (fun h2 => ?_)
   ·refine tB (tI (by omega) (by omega)) (fun x3 h4 => ?_)
    have oh4 : SzT x3 := ov5.2 x3 h4.1
    refine tF (fun h5 => ?_) (fun h5 => ?_)
    ·refine qw (v6 + 1) fun q6 q7 => ?_
     exact tL ⟨ov1, O0, O1, ov5, cl, cl, cl⟩ (by unfold Zjz lt6; dsimp only; omega)
    ·exact tJ (Zl8 v1 E0 E1 v5 v6 ⟨ov1, O0, O1, ov5, cl, cl, cl⟩)
   ·exact tJ (Zl8 v1 E0 E1 v5 v6 ⟨ov1, O0, O1, ov5, cl, cl, cl⟩)
  | L1 v1 E0 E1 v5 v6 => exact Zl8 v1 E0 E1 v5 v6 hs
theorem Zas6 (a0 : Za) (a1 : Zr) (a2 : Int) (a3 : Int) (oa0 : Zt a0) (oa1 : Zat a1) : Tot (Zaa0 a0 a1 a2 a3) (fun r => (Zt r)) := by
 unfold Zaa0
 refine tZ ?_
 dsimp only [Zafc, LT.den]
 refine tB (Z56 a1 oa1) (fun x1 h2 => ?_)
 refine tO (fun h3 => ?_) (fun h3 => ?_)
 ·exact tR oa0
 ·refine tE (fun h4 => ?_) (fun h4 => ?_)
  ·exact tR ⟨oa0.1, oa0.2.1, oa0.2.2⟩
  ·refine tE (fun h5 => ?_) (fun h5 => ?_)
   ·exact tR ⟨oa0.1, oa0.2.1, oa0.2.2⟩
   ·refine tE (fun h6 => ?_) (fun h6 => ?_)
    ·exact tR ⟨oa0.1, oa0.2.1, oa0.2.2⟩
    ·refine tE (fun h7 => ?_) (fun h7 => ?_)
     ·have q8 : (SzL 16 SzT) ([a1.Sub] : (List (List UInt8))) := ⟨by simp only [List.length_cons, List.length_nil]; omega, (mem_cons' (SzS.t oa1.1) (fun _ h => by cases h))⟩
      exact tR ⟨oa0.1, q8, oa0.2.2⟩
     ·refine tE (fun h9 => ?_) (fun h9 => ?_)
      ·refine tB (Zap7 a0.Line a1.Sub oa0.2.1 (SzS.t oa1.1)) (fun x10 h11 => ?_)
       exact tR ⟨oa0.1, h11, oa0.2.2⟩
      ·refine tE (fun h12 => ?_) (fun h12 => ?_)
       ·exact tR ⟨oa0.1, oa0.2.1, oa0.2.2⟩
       ·refine tE (fun h13 => ?_) (fun h13 => ?_)
        ·exact tR ⟨oa0.1, oa0.2.1, oa0.2.2⟩
        ·refine tE (fun h14 => ?_) (fun h14 => ?_)
         ·exact tR ⟨oa0.1, oa0.2.1, oa0.2.2⟩
         ·refine tE (fun h15 => ?_) (fun h15 => ?_)
          ·exact tR ⟨oa0.1, oa0.2.1, oa0.2.2⟩
          ·refine tE (fun h16 => ?_) (fun h16 => ?_)
           ·exact tR ⟨oa0.1, oa0.2.1, SzL.nil⟩
           ·refine tE (fun h17 => ?_) (fun h17 => ?_)
            ·refine tB (Zc9 a3) (fun x18 h19 => ?_)
             have eh19_0 := h19
             refine tB (Zc9 a3) (fun x20 h21 => ?_)
             have eh21_0 := h21
             exact tR ⟨oa0.1, oa0.2.1, oa0.2.2⟩
            ·refine tE (fun h22 => ?_) (fun h22 => ?_)
             ·exact tR ⟨oa0.1, oa0.2.1, oa0.2.2⟩
             ·refine tE (fun h23 => ?_) (fun h23 => ?_)
              ·refine tB (Zh2 a0.Power a1.N) (fun x24 h25 => ?_)
               refine tB (Zh2 a0.Tough a1.M) (fun x26 h27 => ?_)
               exact tR ⟨oa0.1, oa0.2.1, oa0.2.2⟩
              ·refine tE (fun h28 => ?_) (fun h28 => ?_)
               ·exact tR ⟨oa0.1, oa0.2.1, oa0.2.2⟩
               ·exact tR oa0
def Zy1 : Zil → Prop
 | .L0 v2 v3 v4 E0 E1 E2 v11 v12 => ((SzL 8 (fun _ => True)) v4) ∧ (Zt E0) ∧ (Z7 E1) ∧ (Zt E2) ∧ (0 ≤ v12) ∧ (0 ≤ v11) ∧ (v11 = cnt (fun m => (Zb8 m.Kind).getD 0 == v2) E1.Mods v12) ∧ (v4.length = (E1.Mods.filter fun m => (Zb8 m.Kind).getD 0 == v2).length) ∧ (v11 ≤ 17592186043904)
def Zqp : Zil → M6
 | .L0 v2 v3 v4 E0 E1 E2 v11 v12 => (1, ((E1.Mods.length : Int) - v12).toNat, 1000000, 0, 0, 0)
theorem Z78 (v2 : Int) (v3 : Int) (v4 : (List Int)) (E0 : Za) (E1 : Zm) (E2 : Za) (v11 : Int) (v12 : Int) (h : ((SzL 8 (fun _ => True)) v4) ∧ (Zt E0) ∧ (Z7 E1) ∧ (Zt E2) ∧ (0 ≤ v12) ∧ (0 ≤ v11) ∧ (v11 = cnt (fun m => (Zb8 m.Kind).getD 0 == v2) E1.Mods v12) ∧ (v4.length = (E1.Mods.filter fun m => (Zb8 m.Kind).getD 0 == v2).length) ∧ (v11 ≤ 17592186043904)) : Tot (Zp3 v2 v3 v4 E0 E1 E2 v11 v12).den (Nx Zy1 Zqp (1, ((E1.Mods.length : Int) - v12).toNat, 1000000, 0, 0, 0) (fun r => (Zt r))) := by
 obtain ⟨ov4, O0, O1, O2, cv12, cv11, i0, i1, i2⟩ := h
 have lb_v4 : v4.length * 8 ≤ 140737488351232 := ov4.1
 dsimp only [Zp3, LT.den]
 have q1 : E1.Mods.length * 176 ≤ 140737488351232 := O1.2.2.1
 refine tD (fun h2 => ?_) (fun h2 => ?_)
 ·refine tB (tI (by omega) (by omega)) (fun x3 h4 => ?_)
  have oh4 : Zat x3 := O1.2.2.2 x3 h4.1
  refine tB (Znn x3.Kind) (fun x5 h6 => ?_)
  refine tE (fun h7 => ?_) (fun h7 => ?_)
  ·have hp : (fun m : Zr => (Zb8 m.Kind).getD 0 == v2) x3 = true := by
    show ((Zb8 x3.Kind).getD 0 == v2) = true
    rw [← h6, h7]; exact beq_self_eq_true _
   have hlt := Za9i (p := fun m : Zr => (Zb8 m.Kind).getD 0 == v2) h4.2 cv12 hp
   have hnx := fun w => Zaop (p := fun m : Zr => (Zb8 m.Kind).getD 0 == v2) (w := w) h4.2 cv12 hp
   refine tB (tI (by omega) (by omega)) (fun x8 h9 => ?_)
   refine tB (Zas6 E0 x3 v3 x8 O0 oh4) (fun x10 h11 => ?_)
   replace h11 : (Zt x10) := h11
   refine qw (v11 + 1) fun q12 q13 => ?_
   refine qw (v12 + 1) fun q14 q15 => ?_
   have hw : IntKind.wrap .i64 (v12 + 1) = v12 + 1 := by omega
   exact tL ⟨ov4, h11, O1, O2, cl, cl, by rw [hw, hnx _ rfl]; omega, i1, cl⟩ tk63
  ·have hp : (fun m : Zr => (Zb8 m.Kind).getD 0 == v2) x3 = false := by
    show ((Zb8 x3.Kind).getD 0 == v2) = false
    rw [← h6]; exact beq_false_of_ne h7
   have hnx := fun w => Zauw (p := fun m : Zr => (Zb8 m.Kind).getD 0 == v2) (w := w) h4.2 cv12 hp
   refine qw (v12 + 1) fun q16 q17 => ?_
   have hw : IntKind.wrap .i64 (v12 + 1) = v12 + 1 := by omega
   exact tL ⟨ov4, O0, O1, O2, cl, cv11, by rw [hw, hnx _ rfl]; exact i0, i1, i2⟩ tk63
 ·exact tR O0
theorem Zaic (a0 : Za) (a1 : Zm) (a2 : Int) (a3 : Int) (a4 : (List Int)) (oa0 : Zt a0) (oa1 : Z7 a1) (oa4 : (SzL 8 (fun _ => True)) a4) (h0 : a4.length = (a1.Mods.filter fun m => (Zb8 m.Kind).getD 0 == a2).length) : Tot (Zx6 a0 a1 a2 a3 a4) (fun r => (Zt r)) := by
 unfold Zx6
 refine tX (Inv := Zy1) (μ := Zqp) (m := (1000000, 0, 0, 0, 0, 0)) ?_ ?_
 ·have lb_a4 : a4.length * 8 ≤ 140737488351232 := oa4.1
  dsimp only [Z3x, LT.den]
  exact tL ⟨oa4, oa0, oa1, ⟨(SzS.nil), SzL.nil, SzL.nil⟩, cl, cl, rfl, h0, cl⟩ tk63
 ·intro s hs
  cases s with
  | L0 v2 v3 v4 E0 E1 E2 v11 v12 => exact Z78 v2 v3 v4 E0 E1 E2 v11 v12 hs
def Zas7 : Zmz → Prop
 | .L0 v1 E0 v5 => (Z7 E0) ∧ (0 ≤ v5)
def Zab6 : Zmz → M6
 | .L0 v1 E0 v5 => (1, ((E0.Mods.length : Int) - v5).toNat, 1000000, 0, 0, 0)
theorem Zas8 (a0 : Zm) (a1 : Int) (oa0 : Z7 a0) : Tot (Zaa1 a0 a1) (fun r => True) := by
 unfold Zaa1
 refine tX (Inv := Zas7) (μ := Zab6) (m := (1000000, 0, 0, 0, 0, 0)) ?_ ?_
 ·dsimp only [Zafe, LT.den]
  exact tL ⟨oa0, cl⟩ tk88
 ·intro s hs
  cases s with
  | L0 v1 E0 v5 =>
   obtain ⟨O0, cv5⟩ := hs
   show Tot (Zx7 v1 E0 v5).den _
   dsimp only [Zx7, LT.den]
   have q1 := O0.2.2.1
   refine tD (fun h2 => ?_) (fun h2 => ?_)
   ·refine tB (tI (by omega) (by omega)) (fun x3 h4 => ?_)
    have oh4 : Zat x3 := O0.2.2.2 x3 h4.1
    refine tE (fun h5 => ?_) (fun h5 => ?_)
    ·refine tB (Znn x3.Kind) (fun x6 h7 => ?_)
     have eh7_0 := h7
     refine tE (fun h8 => ?_) (fun h8 => ?_)
     ·exact tR trivial
     ·refine qw (v5 + 1) fun q9 q10 => ?_
      exact tL ⟨O0, cl⟩ tk88
    ·refine qw (v5 + 1) fun q11 q12 => ?_
     exact tL ⟨O0, cl⟩ tk88
   ·exact tR trivial
abbrev Zaid (a0 : Zc) (a1 : Int) (a2 : Int) (r : Zc) : Prop := (Zy r) ∧ (r.S.Objects.length = a0.S.Objects.length) ∧ (r.L.length = a0.L.length) ∧ (r.All.length = r.S.Objects.length) ∧ (r.Blank.length = r.S.Objects.length) ∧ (r.Begun.length = r.L.length) ∧ (r.Sets.length = r.L.length)
def Zam8 (a0 : Zc) (a1 : Int) (a2 : Int) : Zjs → Prop
 | .L0 v1 v2 E0 E1 v7 v8 v9 E2 v11 => (E0 = a0) ∧ (Zy E0) ∧ (Zy E1) ∧ ((SzL 8 (fun _ => True)) v7) ∧ ((SzL 8 (fun _ => True)) v8) ∧ (Zy E2) ∧ (0 ≤ v11) ∧ (E0.All.length = E0.S.Objects.length) ∧ (E0.Blank.length = E0.S.Objects.length) ∧ (E0.Begun.length = E0.L.length) ∧ (E0.Sets.length = E0.L.length) ∧ (E0.S.Objects.length ≤ 60) ∧ (E0.L.length ≤ 10000) ∧ (0 ≤ v1) ∧ (v1 < E0.L.length) ∧ (E2.S.Objects.length = E0.S.Objects.length) ∧ (E2.L.length = E0.L.length) ∧ (E2.All.length = E2.S.Objects.length) ∧ (E2.Blank.length = E2.S.Objects.length) ∧ (E2.Begun.length = E2.L.length) ∧ (E2.Sets.length = E2.L.length) ∧ (∀ f, E0.L[v1.toNat]? = some f → v8.length = (f.Mods.filter fun m => (Zb8 m.Kind).getD 0 == v2).length)
def Z4g : Zjs → M6
 | .L0 v1 v2 E0 E1 v7 v8 v9 E2 v11 => (1, ((E0.S.Objects.length : Int) - v11).toNat, 1000000, 0, 0, 0)
theorem Z0k (a0 : Zc) (a1 : Int) (a2 : Int) (oa0 : Zy a0) (h0 : a0.All.length = a0.S.Objects.length) (h1 : a0.Blank.length = a0.S.Objects.length) (h2 : a0.Begun.length = a0.L.length) (h3 : a0.Sets.length = a0.L.length) (h4 : a0.S.Objects.length ≤ 60) (h5 : a0.L.length ≤ 10000) (h6 : 0 ≤ a1) (h7 : a1 < a0.L.length) : Tot (Z1z a0 a1 a2) (Zaid a0 a1 a2) := by
 unfold Z1z
 refine tX (Inv := (Zam8 a0 a1 a2)) (μ := Z4g) (m := (1000000, 0, 0, 0, 0, 0)) ?_ ?_
 ·dsimp only [Z7j, LT.den]
  refine tB (Zlp a0 a1 oa0 cl cl cl cl cl cl cl cl) (fun x1 h2 => ?_)
  refine tO (fun h3 => ?_) (fun h3 => ?_)
  ·exact tR ⟨oa0, cl, cl, cl, cl, cl, cl⟩
  ·refine tB (Zqn a0 a1 oa0 cl cl cl cl cl cl cl cl) (fun x4 h5 => ?_)
   refine tB (Zqo a0 a1 a2 oa0 cl cl cl cl cl cl cl cl) (fun x6 h7 => ?_)
   have eh7_1 := h7.2
   refine tB (Zsi a0 a1 oa0 cl cl cl cl cl cl cl cl) (fun x8 h9 => ?_)
   have q12 := oa0.2.1.1
   refine tB (tA Zn2 (by decide)) (fun x10 h11 => ?_)
   have lh11 : x10.length = ([] : (List Za)).length + a0.All.length := by rw [h11, List.length_append]
   try simp only [List.length_cons, List.length_nil, Nat.zero_add] at lh11
   have q15 := oa0.2.2.2.1.1
   refine tB (tA Zn2 (by decide)) (fun x13 h14 => ?_)
   have lh14 : x13.length = ([] : (List Bool)).length + a0.Begun.length := by rw [h14, List.length_append]
   try simp only [List.length_cons, List.length_nil, Nat.zero_add] at lh14
   have q18 := oa0.2.2.2.2.1.1
   refine tB (tA Zn2 (by decide)) (fun x16 h17 => ?_)
   have lh17 : x16.length = ([] : (List (List Int))).length + a0.Sets.length := by rw [h17, List.length_append]
   try simp only [List.length_cons, List.length_nil, Nat.zero_add] at lh17
   have q21 := oa0.2.2.2.2.2.1
   refine tB (tA Zn2 (by decide)) (fun x19 h20 => ?_)
   have lh20 : x19.length = ([] : (List Bool)).length + a0.Blank.length := by rw [h20, List.length_append]
   try simp only [List.length_cons, List.length_nil, Nat.zero_add] at lh20
   refine tB (tI (by omega) (by omega)) (fun x22 h23 => ?_)
   refine tB (Tot.set (by omega) (by omega)) (fun x24 h25 => ?_)
   have lh25 := h25.1
   refine tB (tI (by omega) (by omega)) (fun x26 h27 => ?_)
   have oh27 : (SzL 8 (fun _ => True)) x26 := (SzL.app (k := 24) h17 lo (fun _ h => by cases h) oa0.2.2.2.2.1.2).2 x26 h27.1
   refine tB (Tot.set (by omega) (by omega)) (fun x28 h29 => ?_)
   have lh29 := h29.1
   exact tL ⟨rfl, oa0, ⟨⟨SzL.nil, SzL.nil, SzL.nil, SzL.nil, SzL.nil, SzL.nil, SzL.nil, SzL.nil⟩, SzL.nil, SzL.nil, SzL.nil, SzL.nil, SzL.nil⟩, h5, h7.1, ⟨oa0.1, (SzL.app (k := 176) h11 lo (fun _ h => by cases h) oa0.2.1.2), oa0.2.2.1, ⟨lo, fun _ _ => trivial⟩, ⟨lo, fun e he => (h29.2.1 e he).elim (fun w => by rw [w]; exact h5) ((SzL.app (k := 24) h17 lo (fun _ h => by cases h) oa0.2.2.2.2.1.2).2 e)⟩, ⟨lo, fun _ _ => trivial⟩⟩, cl, cl, cl, cl, cl, cl, cl, cl, cl, cl, cl, cl, cl, cl, cl, (by assumption)⟩ tk71
 ·intro s hs
  cases s with
  | L0 v1 v2 E0 E1 v7 v8 v9 E2 v11 =>
   obtain ⟨al0, O0, O1, ov7, ov8, O2, cv11, i0, i1, i2, i3, i4, i5, i6, i7, i8, i9, i10, i11, i12, i13, i14⟩ := hs
   have lb_v7 := ov7.1
   have lb_v8 := ov8.1
   subst al0
   show Tot (Zrj v1 v2 E0 E1 v7 v8 v9 E2 v11).den _
   dsimp only [Zrj, LT.den]
   have q1 := O0.1.2.1.1
   refine tD (fun h2 => ?_) (fun h2 => ?_)
   ·refine tB (tI (by omega) (by omega)) (fun x3 h4 => ?_)
    refine tB (Zafz v7 x3.Id ov7) (fun x5 h6 => ?_)
    have eh6_0 := h6
    refine tO (fun h7 => ?_) (fun h7 => ?_)
    ·refine qw (v11 + 1) fun q8 q9 => ?_
     exact tL ⟨rfl, O0, O1, ov7, ov8, O2, cl, cl, cl, cl, cl, cl, cl, cl, cl, cl, cl, cl, cl, cl, cl, (by assumption)⟩ tk71
    ·refine tB (tI (by omega) (by omega)) (fun x10 h11 => ?_)
     have oh11 : Zt x10 := O0.2.1.2 x10 h11.1
     refine tB (tI (by omega) (by omega)) (fun x12 h13 => ?_)
     have oh13 : Z7 x12 := O0.2.2.1.2 x12 h13.1
     have mh13 := h13.2
     refine tB (Zaic x10 x12 v2 v9 v8 oh11 oh13 ov8 (by grind)) (fun x14 h15 => ?_)
     refine tB (tI (by omega) (by omega)) (fun x16 h17 => ?_)
     have oh17 : Zt x16 := O2.2.1.2 x16 h17.1
     refine tB (Tot.set (by omega) (by omega)) (fun x18 h19 => ?_)
     have lh19 := h19.1
     refine tB (Zas8 x12 v2 oh13) (fun x20 h21 => ?_)
     refine tF (fun h22 => ?_) (fun h22 => ?_)
     ·refine tB (tI (by omega) (by omega)) (fun x23 h24 => ?_)
      refine tB (Tot.set (by omega) (by omega)) (fun x25 h26 => ?_)
      have lh26 := h26.1
      refine qw (v11 + 1) fun q27 q28 => ?_
      exact tL ⟨rfl, O0, O1, ov7, ov8, ⟨O2.1, ⟨lo, fun e he => (h19.2.1 e he).elim (fun w => by rw [w]; exact h15) (O2.2.1.2 e)⟩, O2.2.2.1, O2.2.2.2.1, O2.2.2.2.2.1, ⟨lo, fun _ _ => trivial⟩⟩, cl, cl, cl, cl, cl, cl, cl, cl, cl, cl, cl, cl, cl, cl, cl, (by assumption)⟩ tk71
     ·refine qw (v11 + 1) fun q29 q30 => ?_
      exact tL ⟨rfl, O0, O1, ov7, ov8, ⟨O2.1, ⟨lo, fun e he => (h19.2.1 e he).elim (fun w => by rw [w]; exact h15) (O2.2.1.2 e)⟩, O2.2.2.1, O2.2.2.2.1, O2.2.2.2.2.1, O2.2.2.2.2.2⟩, cl, cl, cl, cl, cl, cl, cl, cl, cl, cl, cl, cl, cl, cl, cl, (by assumption)⟩ tk71
   ·exact tR ⟨O2, cl, cl, cl, cl, cl, cl⟩
theorem Zas9 (a0 : Zc) (a1 : Int) (a2 : Int) (a3 : Int) (oa0 : Zy a0) (h0 : a0.All.length = a0.S.Objects.length) (h1 : a0.Blank.length = a0.S.Objects.length) (h2 : a0.Begun.length = a0.L.length) (h3 : a0.Sets.length = a0.L.length) (h4 : a0.S.Objects.length ≤ 60) (h5 : a0.L.length ≤ 10000) (h6 : 0 ≤ a1) (h7 : a1 < a0.L.length) (h8 : 0 ≤ a2) (h9 : a2 < a0.L.length) : Tot (Zaa2 a0 a1 a2 a3) (fun r => True) := by
 unfold Zaa2
 refine tZ ?_
 dsimp only [Zafg, LT.den]
 refine tE (fun h1 => ?_) (fun h1 => ?_)
 ·exact tR trivial
 ·refine tB (Z0k a0 a2 a3 oa0 cl cl cl cl cl cl cl cl) (fun x2 h3 => ?_)
  have eh3_1 := h3.2.1
  have eh3_2 := h3.2.2.1
  have eh3_3 := h3.2.2.2.1
  have eh3_4 := h3.2.2.2.2.1
  have eh3_5 := h3.2.2.2.2.2.1
  have eh3_6 := h3.2.2.2.2.2.2
  refine tB (Zlp a0 a1 oa0 cl cl cl cl cl cl cl cl) (fun x4 h5 => ?_)
  refine tB (Zlp x2 a1 h3.1 cl cl cl cl cl cl cl cl) (fun x6 h7 => ?_)
  refine tO (fun h8 => ?_) (fun h8 => ?_)
  ·exact tR trivial
  ·refine tB (Zqn a0 a1 oa0 cl cl cl cl cl cl cl cl) (fun x9 h10 => ?_)
   refine tB (Zqn x2 a1 h3.1 cl cl cl cl cl cl cl cl) (fun x11 h12 => ?_)
   refine tB (Zhd x9 x11 h10 h12) (fun x13 h14 => ?_)
   have eh14_0 := h14
   refine tO (fun h15 => ?_) (fun h15 => ?_)
   ·exact tR trivial
   ·refine tB (Zqo a0 a1 a3 oa0 cl cl cl cl cl cl cl cl) (fun x16 h17 => ?_)
    have eh17_1 := h17.2
    refine tB (Zqo x2 a1 a3 h3.1 cl cl cl cl cl cl cl cl) (fun x18 h19 => ?_)
    have eh19_1 := h19.2
    refine tB (Zhd x16 x18 h17.1 h19.1) (fun x20 h21 => ?_)
    have eh21_0 := h21
    exact tR trivial
def Zazq (a0 : (List Int)) (a1 : Int) : Ztt → Prop
 | .L0 v0 v1 v5 => (v0 = a0) ∧ (v1 = a1) ∧ ((SzL 8 (fun _ => True)) v0) ∧ (0 ≤ v5) ∧ (∀ (k : Nat) x, (k : Int) < v5 → v0[k]? = some x → x ≠ v1)
def Z6c : Ztt → M6
 | .L0 v0 v1 v5 => (1, ((v0.length : Int) - v5).toNat, 1000000, 0, 0, 0)
theorem Z2m (a0 : (List Int)) (a1 : Int) (oa0 : (SzL 8 (fun _ => True)) a0) : Tot (Zao8 a0 a1) (fun r => (r = true ↔ a1 ∈ a0)) := by
 unfold Zao8
 refine tX (Inv := (Zazq a0 a1)) (μ := Z6c) (m := (1000000, 0, 0, 0, 0, 0)) ?_ ?_
 ·have lb_a0 := oa0.1
  dsimp only [Zarf, LT.den]
  exact tL ⟨rfl, rfl, oa0, cl, tk17⟩ (by unfold Z6c lt6; dsimp only; omega)
 ·intro s hs
  cases s with
  | L0 v0 v1 v5 =>
   obtain ⟨al0, al1, ov0, cv5, i0⟩ := hs
   have lb_v0 := ov0.1
   subst al0
   subst al1
   show Tot (Z5l v0 v1 v5).den _
   dsimp only [Z5l, LT.den]
   have q1 := ov0.1
   refine tD (fun h2 => ?_) (fun h2 => ?_)
   ·refine tB (tI (by omega) (by omega)) (fun x3 h4 => ?_)
    have mh4 := h4.2
    refine tE (fun h5 => ?_) (fun h5 => ?_)
    ·exact tR Zatq
    ·refine qw (v5 + 1) fun q6 q7 => ?_
     exact tL ⟨rfl, rfl, ov0, cl, tk17⟩ (by unfold Z6c lt6; dsimp only; omega)
   ·exact tR Zatq
abbrev Zadc (a0 : (List Int)) (r : (List Int)) : Prop := ((SzL 8 (fun _ => True)) r) ∧ (r.length ≤ a0.length) ∧ (r.Nodup ∧ ∀ x, x ∈ r → x ∈ a0 ∧ 0 ≤ x) ∧ (∀ x, x ∈ a0 → 0 ≤ x → x ∈ r)
def Zaie (a0 : (List Int)) : Zim → Prop
 | .L0 v0 v3 v4 => (v0 = a0) ∧ ((SzL 8 (fun _ => True)) v0) ∧ ((SzL 8 (fun _ => True)) v3) ∧ (0 ≤ v4) ∧ (v3.length ≤ v4.toNat) ∧ (v4.toNat ≤ v0.length) ∧ (v3.Nodup ∧ ∀ x, x ∈ v3 → x ∈ v0 ∧ 0 ≤ x) ∧ (∀ (k : Nat) x, (k : Int) < v4 → v0[k]? = some x → 0 ≤ x → x ∈ v3)
def Z0l : Zim → M6
 | .L0 v0 v3 v4 => (1, ((v0.length : Int) - v4).toNat, 1000000, 0, 0, 0)
theorem Zaif (a0 : (List Int)) (oa0 : (SzL 8 (fun _ => True)) a0) : Tot (Zp5 a0) (Zadc a0) := by
 unfold Zp5
 refine tX (Inv := (Zaie a0)) (μ := Z0l) (m := (1000000, 0, 0, 0, 0, 0)) ?_ ?_
 ·have lb_a0 := oa0.1
  dsimp only [Z30, LT.den]
  exact tL ⟨rfl, oa0, SzL.nil, cl, cl, cl, (by first | exact ⟨List.nodup_nil, fun x hx => nomatch hx⟩ | assumption | (refine ⟨?_, fun x hx => ?_⟩ <;> grind [Zlh])), tk18⟩ tk64
 ·intro s hs
  cases s with
  | L0 v0 v3 v4 =>
   obtain ⟨al0, ov0, ov3, cv4, i0, i1, i2, i3⟩ := hs
   have lb_v0 := ov0.1
   have lb_v3 := ov3.1
   subst al0
   show Tot (Zp4 v0 v3 v4).den _
   dsimp only [Zp4, LT.den]
   have q1 := ov0.1
   refine tD (fun h2 => ?_) (fun h2 => ?_)
   ·refine tB (tI (by omega) (by omega)) (fun x3 h4 => ?_)
    have mh4 := h4.2
    refine tD (fun h5 => ?_) (fun h5 => ?_)
    ·refine tB (Z2m v3 x3 ov3) (fun x6 h7 => ?_)
     have eh7_0 := h7
     refine tO (fun h8 => ?_) (fun h8 => ?_)
     ·have q9 : (SzL 8 (fun _ => True)) ([x3] : (List Int)) := ⟨by simp only [List.length_cons, List.length_nil]; omega, fun _ _ => trivial⟩
      have q12 := ov3.1
      refine tB (tA Zdt (by decide)) (fun x10 h11 => ?_)
      have lh11 : x10.length = v3.length + 1 := by rw [h11, List.length_append]; rfl
      refine qw (v4 + 1) fun q13 q14 => ?_
      exact tL ⟨rfl, ov0, ⟨lo, fun _ _ => trivial⟩, cl, cl, cl, (by first | exact ⟨List.nodup_nil, fun x hx => nomatch hx⟩ | assumption | (refine ⟨?_, fun x hx => ?_⟩ <;> grind [Zlh])), tk18⟩ tk64
     ·refine qw (v4 + 1) fun q15 q16 => ?_
      exact tL ⟨rfl, ov0, ov3, cl, cl, cl, (by first | exact ⟨List.nodup_nil, fun x hx => nomatch hx⟩ | assumption | (refine ⟨?_, fun x hx => ?_⟩ <;> grind [Zlh])), tk18⟩ tk64
    ·refine qw (v4 + 1) fun q17 q18 => ?_
     exact tL ⟨rfl, ov0, ov3, cl, cl, cl, (by first | exact ⟨List.nodup_nil, fun x hx => nomatch hx⟩ | assumption | (refine ⟨?_, fun x hx => ?_⟩ <;> grind [Zlh])), tk18⟩ tk64
   ·exact tR ⟨ov3, cl, (by assumption), (by intro x hx h0; obtain ⟨k, hk⟩ := List.mem_iff_getElem?.1 hx; grind)⟩
theorem Zy2 (a0 : (List (List Bool))) (a1 : Int) (a2 : Int) (oa0 : (SzL 24 (SzL 1 (fun _ => True))) a0) (h0 : 0 ≤ a1) (h1 : 0 ≤ a2) : Tot (Zahk a0 a1 a2) (fun r => (r = nB a0 a1 a2)) := by
 unfold Zahk
 refine tZ ?_
 have lb_a0 := oa0.1
 dsimp only [Zama, LT.den]
 have q1 := oa0.1
 refine tD (fun h2 => ?_) (fun h2 => ?_)
 ·refine tB (tI (by omega) (by omega)) (fun x3 h4 => ?_)
  have oh4 : (SzL 1 (fun _ => True)) x3 := oa0.2 x3 h4.1
  have q5 := oh4.1
  refine tD (fun h6 => ?_) (fun h6 => ?_)
  ·refine tB (tI (by omega) (by omega)) (fun x7 h8 => ?_)
   exact tR (by unfold nB; grind)
  ·exact tR (by unfold nB; grind)
 ·exact tR (by unfold nB; grind)
abbrev Zaig (a0 : (List Int)) (a1 : (List (List Bool))) (a2 : Int) (r : (List Int)) : Prop := ((SzL 8 (fun _ => True)) r) ∧ (Rch a0 (fun x y => nB a1 x y = true) a2 r)
def Zam9 (a0 : (List Int)) (a1 : (List (List Bool))) (a2 : Int) : Zf8 → Prop
 | .L0 v0 v1 v2 v7 v8 => (v0 = a0) ∧ (v1 = a1) ∧ (v2 = a2) ∧ ((SzL 8 (fun _ => True)) v0) ∧ ((SzL 24 (SzL 1 (fun _ => True))) v1) ∧ ((SzL 8 (fun _ => True)) v7) ∧ (0 ≤ v8) ∧ (∀ x, x ∈ v0 → 0 ≤ x) ∧ (v0.Nodup) ∧ (v0.length ≤ 10000) ∧ (0 ≤ v2) ∧ (RA v0 v1 v2 v7 v8)
 | .L1 v0 v1 v7 v9 => (v0 = a0) ∧ (v1 = a1) ∧ ((SzL 8 (fun _ => True)) v0) ∧ ((SzL 24 (SzL 1 (fun _ => True))) v1) ∧ ((SzL 8 (fun _ => True)) v7) ∧ (0 ≤ v9) ∧ (∀ x, x ∈ v0 → 0 ≤ x) ∧ (v0.Nodup) ∧ (v0.length ≤ 10000) ∧ (RB v0 v1 a2 v7 v9)
 | .L2 v0 v1 v7 v9 v10 => (v0 = a0) ∧ (v1 = a1) ∧ ((SzL 8 (fun _ => True)) v0) ∧ ((SzL 24 (SzL 1 (fun _ => True))) v1) ∧ ((SzL 8 (fun _ => True)) v7) ∧ (0 ≤ v10) ∧ (0 ≤ v9) ∧ (v9 < (v7.length : Int)) ∧ (∀ x, x ∈ v0 → 0 ≤ x) ∧ (v0.Nodup) ∧ (v0.length ≤ 10000) ∧ (RC v0 v1 a2 v7 v9 v10)
def Z4h : Zf8 → M6
 | .L0 v0 v1 v2 v7 v8 => (3, ((v0.length : Int) - v8).toNat, 1000000, 0, 0, 0)
 | .L1 v0 v1 v7 v9 => (1, ((v0.length : Int) - v9).toNat, 1000000, 0, 0, 0)
 | .L2 v0 v1 v7 v9 v10 => (1, ((v0.length : Int) - v9).toNat, 1, ((v0.length : Int) - v10).toNat, 1000000, 0)
theorem Z0m (a0 : (List Int)) (a1 : (List (List Bool))) (a2 : Int) (oa0 : (SzL 8 (fun _ => True)) a0) (oa1 : (SzL 24 (SzL 1 (fun _ => True))) a1) (h0 : 0 ≤ a2) (h1 : ∀ x, x ∈ a0 → 0 ≤ x) (h2 : a0.Nodup) (h3 : a0.length ≤ 10000) : Tot (Zse a0 a1 a2) (Zaig a0 a1 a2) := by
 unfold Zse
 refine tX (Inv := (Zam9 a0 a1 a2)) (μ := Z4h) (m := (1000000, 0, 0, 0, 0, 0)) ?_ ?_
 ·have lb_a0 := oa0.1
  have lb_a1 := oa1.1
  dsimp only [Z7l, LT.den]
  exact tL ⟨rfl, rfl, rfl, oa0, oa1, SzL.nil, cl, (by assumption), (by assumption), cl, (by assumption), (by first | exact RA_0 | (refine Zauv (by assumption) (by assumption) (by assumption) (by assumption) (by assumption) ?_ ?_ <;> grind) | (refine Zaoo (by assumption) (by assumption) (by assumption) ?_ ?_ <;> grind))⟩ Z5y
 ·intro s hs
  cases s with
  | L0 v0 v1 v2 v7 v8 =>
   obtain ⟨al0, al1, al2, ov0, ov1, ov7, cv8, i0, i1, i2, i3, i4⟩ := hs
   have lb_v0 := ov0.1
   have lb_v1 := ov1.1
   have lb_v7 := ov7.1
   subst al0
   subst al1
   subst al2
   show Tot (Zrk v0 v1 v2 v7 v8).den _
   dsimp only [Zrk, LT.den]
   have li := i4.1.len
   have q1 := ov0.1
   refine tD (fun h2 => ?_) (fun h2 => ?_)
   ·refine tB (tI (by omega) (by omega)) (fun x3 h4 => ?_)
    have mh4 := h4.2
    refine tB (Zy2 v1 v2 x3 ov1 Zi8 Zi8) (fun x5 h6 => ?_)
    have eh6_0 := h6
    refine tF (fun h7 => ?_) (fun h7 => ?_)
    ·have q8 : (SzL 8 (fun _ => True)) ([x3] : (List Int)) := ⟨by simp only [List.length_cons, List.length_nil]; omega, fun _ _ => trivial⟩
     have q11 := ov7.1
     refine tB (tA Zdt (by decide)) (fun x9 h10 => ?_)
     have lh10 : x9.length = v7.length + 1 := by rw [h10, List.length_append]; rfl
     refine qw (v8 + 1) fun q12 q13 => ?_
     exact tL ⟨rfl, rfl, rfl, ov0, ov1, ⟨lo, fun _ _ => trivial⟩, cl, (by assumption), (by assumption), cl, (by assumption), (by first | exact RA_0 | (refine Zauv (by assumption) (by assumption) (by assumption) (by assumption) (by assumption) ?_ ?_ <;> grind) | (refine Zaoo (by assumption) (by assumption) (by assumption) ?_ ?_ <;> grind))⟩ Z5y
    ·refine qw (v8 + 1) fun q14 q15 => ?_
     exact tL ⟨rfl, rfl, rfl, ov0, ov1, ov7, cl, (by assumption), (by assumption), cl, (by assumption), (by first | exact RA_0 | (refine Zauv (by assumption) (by assumption) (by assumption) (by assumption) (by assumption) ?_ ?_ <;> grind) | (refine Zaoo (by assumption) (by assumption) (by assumption) ?_ ?_ <;> grind))⟩ Z5y
   ·exact tL ⟨rfl, rfl, ov0, ov1, ov7, cl, (by assumption), (by assumption), cl, tk31⟩ Z5y
  | L1 v0 v1 v7 v9 =>
   obtain ⟨al0, al1, ov0, ov1, ov7, cv9, i0, i1, i2, i3⟩ := hs
   have lb_v0 := ov0.1
   have lb_v1 := ov1.1
   have lb_v7 := ov7.1
   subst al0
   subst al1
   show Tot (Zrl v0 v1 v7 v9).den _
   dsimp only [Zrl, LT.den]
   have li := i3.1.len
   have q1 := ov7.1
   refine tD (fun h2 => ?_) (fun h2 => ?_)
   ·exact tL ⟨rfl, rfl, ov0, ov1, ov7, cl, cl, cl, (by assumption), (by assumption), cl, (by first | exact RC_0 (by assumption) | (refine Zajw (by assumption) (by assumption) (by assumption) (by assumption) (by assumption) (by assumption) ?_ ?_ ?_ <;> grind) | (refine Zact (by assumption) (by assumption) (by assumption) (by assumption) ?_ ?_ <;> grind))⟩ Z5y
   ·exact tR ⟨ov7, (by exact Za9h (by assumption) (by omega))⟩
  | L2 v0 v1 v7 v9 v10 =>
   obtain ⟨al0, al1, ov0, ov1, ov7, cv10, cv9, bd7, i0, i1, i2, i3⟩ := hs
   have lb_v0 := ov0.1
   have lb_v1 := ov1.1
   have lb_v7 := ov7.1
   subst al0
   subst al1
   show Tot (Zrm v0 v1 v7 v9 v10).den _
   dsimp only [Zrm, LT.den]
   have lx_0 : v7.length * 8 ≤ 140737488351232 := ov7.1
   have li := i3.1.1.len
   have q1 := ov0.1
   refine tD (fun h2 => ?_) (fun h2 => ?_)
   ·refine tB (tI (by omega) (by omega)) (fun x3 h4 => ?_)
    have mh4 := h4.2; have ch4 : x3 ∈ v0 := i3.1.1.2.1 _ h4.1
    refine tB (tI (by omega) (by omega)) (fun x5 h6 => ?_)
    have mh6 := h6.2
    refine tB (Zy2 v1 x3 x5 ov1 Zi8 Zi8) (fun x7 h8 => ?_)
    have eh8_0 := h8
    refine tF (fun h9 => ?_) (fun h9 => ?_)
    ·refine tB (Z2m v7 x5 ov7) (fun x10 h11 => ?_)
     have eh11_0 := h11
     refine tO (fun h12 => ?_) (fun h12 => ?_)
     ·have q13 : (SzL 8 (fun _ => True)) ([x5] : (List Int)) := ⟨by simp only [List.length_cons, List.length_nil]; omega, fun _ _ => trivial⟩
      have q16 := ov7.1
      refine tB (tA Zdt (by decide)) (fun x14 h15 => ?_)
      have lh15 : x14.length = v7.length + 1 := by rw [h15, List.length_append]; rfl
      refine qw (v10 + 1) fun q17 q18 => ?_
      exact tL ⟨rfl, rfl, ov0, ov1, ⟨lo, fun _ _ => trivial⟩, cl, cl, cl, (by assumption), (by assumption), cl, (by first | exact RC_0 (by assumption) | (refine Zajw (by assumption) (by assumption) (by assumption) (by assumption) (by assumption) (by assumption) ?_ ?_ ?_ <;> grind) | (refine Zact (by assumption) (by assumption) (by assumption) (by assumption) ?_ ?_ <;> grind))⟩ Z5y
     ·refine qw (v10 + 1) fun q19 q20 => ?_
      exact tL ⟨rfl, rfl, ov0, ov1, ov7, cl, cl, cl, (by assumption), (by assumption), cl, (by first | exact RC_0 (by assumption) | (refine Zajw (by assumption) (by assumption) (by assumption) (by assumption) (by assumption) (by assumption) ?_ ?_ ?_ <;> grind) | (refine Zact (by assumption) (by assumption) (by assumption) (by assumption) ?_ ?_ <;> grind))⟩ Z5y
    ·refine qw (v10 + 1) fun q21 q22 => ?_
     exact tL ⟨rfl, rfl, ov0, ov1, ov7, cl, cl, cl, (by assumption), (by assumption), cl, (by first | exact RC_0 (by assumption) | (refine Zajw (by assumption) (by assumption) (by assumption) (by assumption) (by assumption) (by assumption) ?_ ?_ ?_ <;> grind) | (refine Zact (by assumption) (by assumption) (by assumption) (by assumption) ?_ ?_ <;> grind))⟩ Z5y
   ·refine qw (v9 + 1) fun q23 q24 => ?_
    exact tL ⟨rfl, rfl, ov0, ov1, ov7, cl, (by assumption), (by assumption), cl, tk31⟩ Z5y
abbrev Zap8 (a0 : (List Int)) (a1 : (List (List Bool))) (r : (List Int)) : Prop := ((SzL 8 (fun _ => True)) r) ∧ (∀ x, x ∈ r → x ∈ a0 ∧ 0 ≤ x) ∧ (∀ x, x ∈ a0 → 0 ≤ x → r ≠ [])
def Zata (a0 : (List Int)) (a1 : (List (List Bool))) : Zj3 → Prop
 | .L0 v1 v5 v6 v7 => (v1 = a1) ∧ ((SzL 24 (SzL 1 (fun _ => True))) v1) ∧ ((SzL 8 (fun _ => True)) v5) ∧ ((SzL 8 (fun _ => True)) v6) ∧ (0 ≤ v7) ∧ (∀ x, x ∈ v5 → x ∈ a0 ∧ 0 ≤ x) ∧ (∀ x, x ∈ a0 → 0 ≤ x → x ∈ v5) ∧ (v5.Nodup) ∧ (v5.length ≤ 10000) ∧ (v6.length ≤ v7.toNat) ∧ (∀ x, x ∈ v6 → x ∈ v5) ∧ (∀ (k : Nat) x, (k : Int) < v7 → v5[k]? = some x → RD v5 v1 x → x ∈ v6)
 | .L1 v1 v5 v6 v7 v8 v9 => (v1 = a1) ∧ ((SzL 24 (SzL 1 (fun _ => True))) v1) ∧ ((SzL 8 (fun _ => True)) v5) ∧ ((SzL 8 (fun _ => True)) v6) ∧ (0 ≤ v9) ∧ (0 ≤ v7) ∧ (v7 < (v5.length : Int)) ∧ (∀ x, x ∈ v5 → x ∈ a0 ∧ 0 ≤ x) ∧ (∀ x, x ∈ a0 → 0 ≤ x → x ∈ v5) ∧ (v5.Nodup) ∧ (v5.length ≤ 10000) ∧ (v6.length ≤ v7.toNat) ∧ (∀ x, x ∈ v6 → x ∈ v5) ∧ (∀ (k : Nat) x, (k : Int) < v7 → v5[k]? = some x → RD v5 v1 x → x ∈ v6) ∧ (∀ x, v5[v7.toNat]? = some x → RD v5 v1 x → v8 = true)
def Zab7 : Zj3 → M6
 | .L0 v1 v5 v6 v7 => (1, ((v5.length : Int) - v7).toNat, 1000000, 0, 0, 0)
 | .L1 v1 v5 v6 v7 v8 v9 => (1, ((v5.length : Int) - v7).toNat, 1, ((v5.length : Int) - v9).toNat, 1000000, 0)
theorem Zatb (a0 : (List Int)) (a1 : (List (List Bool))) (oa0 : (SzL 8 (fun _ => True)) a0) (oa1 : (SzL 24 (SzL 1 (fun _ => True))) a1) (h0 : a0.length ≤ 10000) : Tot (Z0a a0 a1) (Zap8 a0 a1) := by
 unfold Z0a
 refine tX (Inv := (Zata a0 a1)) (μ := Zab7) (m := (1000000, 0, 0, 0, 0, 0)) ?_ ?_
 ·have lb_a0 := oa0.1
  have lb_a1 := oa1.1
  dsimp only [Zafi, LT.den]
  refine tB (Zaif a0 oa0) (fun x1 h2 => ?_)
  have eh2_1 := h2.2.1
  have eh2_2 := h2.2.2.1
  have eh2_3 := h2.2.2.2
  exact tL ⟨rfl, oa1, h2.1, SzL.nil, cl, Zar, Zar, Zar, cl, cl, tk50, tk9⟩ tk89
 ·intro s hs
  cases s with
  | L0 v1 v5 v6 v7 =>
   obtain ⟨al0, ov1, ov5, ov6, cv7, i0, i1, i2, i3, i4, i5, i6⟩ := hs
   have lb_v1 := ov1.1
   have lb_v5 := ov5.1
   have lb_v6 := ov6.1
   subst al0
   show Tot (Zx8 v1 v5 v6 v7).den _
   dsimp only [Zx8, LT.den]
   have q1 := ov5.1
   refine tD (fun h2 => ?_) (fun h2 => ?_)
   ·exact tL ⟨rfl, ov1, ov5, ov6, cl, cl, cl, Zar, Zar, Zar, cl, cl, Zar, Zar, tk1⟩ tk89
   ·exact tR ⟨ov6, (by grind), (by exact Za54 (by assumption) (by assumption) (by assumption) (by omega) (by omega) (fun y hy => (Z0m v5 v1 y ov5 ov1 (i0 y hy).2 (fun x hx => (i0 x hx).2) (by assumption) (by assumption)).imp fun r h => h.2.2))⟩
  | L1 v1 v5 v6 v7 v8 v9 =>
   obtain ⟨al0, ov1, ov5, ov6, cv9, cv7, bd6, i0, i1, i2, i3, i4, i5, i6, i7⟩ := hs
   have lb_v1 := ov1.1
   have lb_v5 := ov5.1
   have lb_v6 := ov6.1
   subst al0
   show Tot (Zx9 v1 v5 v6 v7 v8 v9).den _
   dsimp only [Zx9, LT.den]
   have lx_0 : v5.length * 8 ≤ 140737488351232 := ov5.1
   have q1 := ov5.1
   refine tD (fun h2 => ?_) (fun h2 => ?_)
   ·refine tN (fun h3 => ?_) (fun h3 => ?_)
    ·refine tB (tI (by omega) (by omega)) (fun x4 h5 => ?_)
     have mh5 := h5.2; have ch5 := i0 _ h5.1
     refine tB (tI (by omega) (by omega)) (fun x6 h7 => ?_)
     have mh7 := h7.2; have ch7 := i0 _ h7.1
     refine tB (Zy2 v1 x4 x6 ov1 Zi8 Zi8) (fun x8 h9 => ?_)
     have eh9_0 := h9
     refine tF (fun h10 => ?_) (fun h10 => ?_)
     ·refine tB (Z0m v5 v1 x6 ov5 ov1 cl Zar Zar cl) (fun x11 h12 => ?_)
      have eh12_1 := h12.2
      refine tB (Z2m x11 x4 h12.1) (fun x13 h14 => ?_)
      have eh14_0 := h14
      refine tO (fun h15 => ?_) (fun h15 => ?_)
      ·refine qw (v9 + 1) fun q16 q17 => ?_
       exact tL ⟨rfl, ov1, ov5, ov6, cl, cl, cl, Zar, Zar, Zar, cl, cl, Zar, Zar, tk1⟩ tk89
      ·refine qw (v9 + 1) fun q18 q19 => ?_
       exact tL ⟨rfl, ov1, ov5, ov6, cl, cl, cl, Zar, Zar, Zar, cl, cl, Zar, Zar, tk1⟩ tk89
     ·refine qw (v9 + 1) fun q20 q21 => ?_
      exact tL ⟨rfl, ov1, ov5, ov6, cl, cl, cl, Zar, Zar, Zar, cl, cl, Zar, Zar, tk1⟩ tk89
    ·refine qw (v9 + 1) fun q22 q23 => ?_
     exact tL ⟨rfl, ov1, ov5, ov6, cl, cl, cl, Zar, Zar, Zar, cl, cl, Zar, Zar, tk1⟩ tk89
   ·refine tF (fun h24 => ?_) (fun h24 => ?_)
    ·refine tB (tI (by omega) (by omega)) (fun x25 h26 => ?_)
     have mh26 := h26.2; have ch26 := i0 _ h26.1
     have q27 : (SzL 8 (fun _ => True)) ([x25] : (List Int)) := ⟨by simp only [List.length_cons, List.length_nil]; omega, fun _ _ => trivial⟩
     have q30 := ov6.1
     refine tB (tA Zdt (by decide)) (fun x28 h29 => ?_)
     have lh29 : x28.length = v6.length + 1 := by rw [h29, List.length_append]; rfl
     refine qw (v7 + 1) fun q31 q32 => ?_
     exact tL ⟨rfl, ov1, ov5, ⟨lo, fun _ _ => trivial⟩, cl, Zar, Zar, Zar, cl, cl, tk50, tk9⟩ tk89
    ·refine qw (v7 + 1) fun q33 q34 => ?_
     exact tL ⟨rfl, ov1, ov5, ov6, cl, Zar, Zar, Zar, cl, cl, tk50, tk9⟩ tk89
theorem Zvf (a0 : (List Int)) (a1 : Int) (oa0 : (SzL 8 (fun _ => True)) a0) (h0 : 0 ≤ a1) : Tot (Zaa3 a0 a1) (fun r => True) := by
 unfold Zaa3
 refine tZ ?_
 have lb_a0 := oa0.1
 dsimp only [Zafk, LT.den]
 have q1 := oa0.1
 refine tD (fun h2 => ?_) (fun h2 => ?_)
 ·refine tB (tI (by omega) (by omega)) (fun x3 h4 => ?_)
  exact tR trivial
 ·exact tR trivial
def Zayb (a0 : (List Int)) (a1 : (List Int)) (a2 : (List (List Bool))) : Zp6 → Prop
 | .L0 v1 v7 v8 v9 => (v1 = a1) ∧ ((SzL 8 (fun _ => True)) v1) ∧ ((SzL 8 (fun _ => True)) v7) ∧ (0 ≤ v9) ∧ (∀ x, x ∈ v7 → x ∈ a0 ∧ 0 ≤ x) ∧ (∀ x, x ∈ a0 → 0 ≤ x → v7 ≠ []) ∧ ((v9 = 0 ∧ v8 = -1) ∨ v8 ∈ v7)
def Zaf1 : Zp6 → M6
 | .L0 v1 v7 v8 v9 => (1, ((v7.length : Int) - v9).toNat, 1000000, 0, 0, 0)
theorem Zayc (a0 : (List Int)) (a1 : (List Int)) (a2 : (List (List Bool))) (oa0 : (SzL 8 (fun _ => True)) a0) (oa1 : (SzL 8 (fun _ => True)) a1) (oa2 : (SzL 24 (SzL 1 (fun _ => True))) a2) (h0 : a0.length ≤ 10000) : Tot (Zahl a0 a1 a2) (fun r => (∀ x, x ∈ a0 → 0 ≤ x → r ∈ a0 ∧ 0 ≤ r)) := by
 unfold Zahl
 refine tX (Inv := (Zayb a0 a1 a2)) (μ := Zaf1) (m := (1000000, 0, 0, 0, 0, 0)) ?_ ?_
 ·have lb_a0 := oa0.1
  have lb_a1 := oa1.1
  have lb_a2 := oa2.1
  dsimp only [Zamd, LT.den]
  refine tB (Zatb a0 a2 oa0 oa2 cl) (fun x1 h2 => ?_)
  have eh2_1 := h2.2.1
  have eh2_2 := h2.2.2
  exact tL ⟨rfl, oa1, h2.1, cl, Zar, Zar, tk55⟩ tk96
 ·intro s hs
  cases s with
  | L0 v1 v7 v8 v9 =>
   obtain ⟨al0, ov1, ov7, cv9, i0, i1, i2⟩ := hs
   have lb_v1 := ov1.1
   have lb_v7 := ov7.1
   subst al0
   show Tot (Z11 v1 v7 v8 v9).den _
   dsimp only [Z11, LT.den]
   have q1 := ov7.1
   refine tD (fun h2 => ?_) (fun h2 => ?_)
   ·refine tB (tI (by omega) (by omega)) (fun x3 h4 => ?_)
    have mh4 := h4.2; have ch4 := i0 _ h4.1
    refine tB (Zvf v1 x3 ov1 Zi8) (fun x5 h6 => ?_)
    refine tD (fun h7 => ?_) (fun h7 => ?_)
    ·refine qw (v9 + 1) fun q8 q9 => ?_
     exact tL ⟨rfl, ov1, ov7, cl, Zar, Zar, tk55⟩ tk96
    ·refine tB (Zvf v1 v8 ov1 Zi8) (fun x10 h11 => ?_)
     refine tD (fun h12 => ?_) (fun h12 => ?_)
     ·refine qw (v9 + 1) fun q13 q14 => ?_
      exact tL ⟨rfl, ov1, ov7, cl, Zar, Zar, tk55⟩ tk96
     ·refine tB (Zvf v1 v8 ov1 Zi8) (fun x15 h16 => ?_)
      refine tE (fun h17 => ?_) (fun h17 => ?_)
      ·refine tD (fun h18 => ?_) (fun h18 => ?_)
       ·refine qw (v9 + 1) fun q19 q20 => ?_
        exact tL ⟨rfl, ov1, ov7, cl, Zar, Zar, tk55⟩ tk96
       ·refine qw (v9 + 1) fun q21 q22 => ?_
        exact tL ⟨rfl, ov1, ov7, cl, Zar, Zar, tk55⟩ tk96
      ·refine qw (v9 + 1) fun q23 q24 => ?_
       exact tL ⟨rfl, ov1, ov7, cl, Zar, Zar, tk55⟩ tk96
   ·exact tR (by intro x hx h0; have := List.length_pos_iff.2 (i1 x hx h0); grind)
def Zayd (a0 : Zc) (a1 : (List Int)) (a2 : Int) : Zi6 → Prop
 | .L0 v1 v2 E0 v7 v8 v9 => (E0 = a0) ∧ (v1 = a1) ∧ ((SzL 8 (fun _ => True)) v1) ∧ (Zy E0) ∧ ((SzL 8 (fun _ => True)) v7) ∧ ((SzL 24 (SzL 1 (fun _ => True))) v8) ∧ (0 ≤ v9) ∧ (∀ x, x ∈ v1 → 0 ≤ x ∧ x < (E0.L.length : Int)) ∧ (E0.All.length = E0.S.Objects.length) ∧ (E0.Blank.length = E0.S.Objects.length) ∧ (E0.Begun.length = E0.L.length) ∧ (E0.Sets.length = E0.L.length) ∧ (E0.S.Objects.length ≤ 60) ∧ (E0.L.length ≤ 10000) ∧ (v1.length ≤ 10000) ∧ (v8.length = v9.toNat) ∧ (∀ y, y ∈ v8 → y.length = E0.L.length) ∧ (v9.toNat ≤ E0.L.length) ∧ (v7.length ≤ v9.toNat)
 | .L1 v1 v2 E0 v7 v8 v10 => (E0 = a0) ∧ (v1 = a1) ∧ ((SzL 8 (fun _ => True)) v1) ∧ (Zy E0) ∧ ((SzL 8 (fun _ => True)) v7) ∧ ((SzL 24 (SzL 1 (fun _ => True))) v8) ∧ (0 ≤ v10) ∧ (∀ x, x ∈ v1 → 0 ≤ x ∧ x < (E0.L.length : Int)) ∧ (E0.All.length = E0.S.Objects.length) ∧ (E0.Blank.length = E0.S.Objects.length) ∧ (E0.Begun.length = E0.L.length) ∧ (E0.Sets.length = E0.L.length) ∧ (E0.S.Objects.length ≤ 60) ∧ (E0.L.length ≤ 10000) ∧ (v1.length ≤ 10000) ∧ (v8.length = E0.L.length) ∧ (∀ y, y ∈ v8 → y.length = E0.L.length)
 | .L2 v1 v2 E0 v7 v8 v10 v11 => (E0 = a0) ∧ (v1 = a1) ∧ ((SzL 8 (fun _ => True)) v1) ∧ (Zy E0) ∧ ((SzL 8 (fun _ => True)) v7) ∧ ((SzL 24 (SzL 1 (fun _ => True))) v8) ∧ (0 ≤ v11) ∧ (0 ≤ v10) ∧ (v10 < (v1.length : Int)) ∧ (∀ x, x ∈ v1 → 0 ≤ x ∧ x < (E0.L.length : Int)) ∧ (E0.All.length = E0.S.Objects.length) ∧ (E0.Blank.length = E0.S.Objects.length) ∧ (E0.Begun.length = E0.L.length) ∧ (E0.Sets.length = E0.L.length) ∧ (E0.S.Objects.length ≤ 60) ∧ (E0.L.length ≤ 10000) ∧ (v1.length ≤ 10000) ∧ (v8.length = E0.L.length) ∧ (∀ y, y ∈ v8 → y.length = E0.L.length)
def Zaf2 : Zi6 → M6
 | .L0 v1 v2 E0 v7 v8 v9 => (3, ((E0.L.length : Int) - v9).toNat, 1000000, 0, 0, 0)
 | .L1 v1 v2 E0 v7 v8 v10 => (1, ((v1.length : Int) - v10).toNat, 1000000, 0, 0, 0)
 | .L2 v1 v2 E0 v7 v8 v10 v11 => (1, ((v1.length : Int) - v10).toNat, 1, ((v1.length : Int) - v11).toNat, 1000000, 0)
theorem Zaye (a0 : Zc) (a1 : (List Int)) (a2 : Int) (oa0 : Zy a0) (oa1 : (SzL 8 (fun _ => True)) a1) (h0 : a0.All.length = a0.S.Objects.length) (h1 : a0.Blank.length = a0.S.Objects.length) (h2 : a0.Begun.length = a0.L.length) (h3 : a0.Sets.length = a0.L.length) (h4 : a0.S.Objects.length ≤ 60) (h5 : a0.L.length ≤ 10000) (h6 : ∀ x, x ∈ a1 → 0 ≤ x ∧ x < (a0.L.length : Int)) (h7 : a1.length ≤ 10000) : Tot (Zahm a0 a1 a2) (fun r => (∀ x, x ∈ a1 → r ∈ a1)) := by
 unfold Zahm
 refine tX (Inv := (Zayd a0 a1 a2)) (μ := Zaf2) (m := (1000000, 0, 0, 0, 0, 0)) ?_ ?_
 ·have lb_a1 := oa1.1
  dsimp only [Zamf, LT.den]
  exact tL ⟨rfl, rfl, oa1, oa0, SzL.nil, SzL.nil, cl, Zar, cl, cl, cl, cl, cl, cl, cl, cl, tk19, cl, cl⟩ tk97
 ·intro s hs
  cases s with
  | L0 v1 v2 E0 v7 v8 v9 =>
   obtain ⟨al0, al1, ov1, O0, ov7, ov8, cv9, i0, i1, i2, i3, i4, i5, i6, i7, i8, i9, i10, i11⟩ := hs
   have lb_v1 := ov1.1
   have lb_v7 := ov7.1
   have lb_v8 := ov8.1
   subst al0
   subst al1
   show Tot (Z12 v1 v2 E0 v7 v8 v9).den _
   dsimp only [Z12, LT.den]
   have q1 := O0.2.2.1.1
   refine tD (fun h2 => ?_) (fun h2 => ?_)
   ·refine tB (tI (by omega) (by omega)) (fun x3 h4 => ?_)
    have oh4 : Z7 x3 := O0.2.2.1.2 x3 h4.1
    have q5 : (SzL 8 (fun _ => True)) ([x3.Stamp] : (List Int)) := ⟨by simp only [List.length_cons, List.length_nil]; omega, fun _ _ => trivial⟩
    have q8 := ov7.1
    refine tB (tA Zdt (by decide)) (fun x6 h7 => ?_)
    have lh7 : x6.length = v7.length + 1 := by rw [h7, List.length_append]; rfl
    refine tB (Tot.make ⟨by omega, by omega, by omega, by omega⟩) (fun x9 h10 => ?_)
    have lh10 := h10.1
    have q11 : (SzL 24 (SzL 1 (fun _ => True))) ([x9] : (List (List Bool))) := ⟨by simp only [List.length_cons, List.length_nil]; omega, (mem_cons' ⟨lo, fun _ _ => trivial⟩ (fun _ h => by cases h))⟩
    have q14 := ov8.1
    refine tB (tA Zdt (by decide)) (fun x12 h13 => ?_)
    have lh13 : x12.length = v8.length + 1 := by rw [h13, List.length_append]; rfl
    refine qw (v9 + 1) fun q15 q16 => ?_
    exact tL ⟨rfl, rfl, ov1, O0, ⟨lo, fun _ _ => trivial⟩, (SzL.app (k := 24) h13 lo ov8.2 q11.2), cl, Zar, cl, cl, cl, cl, cl, cl, cl, cl, tk19, cl, cl⟩ tk97
   ·exact tL ⟨rfl, rfl, ov1, O0, ov7, ov8, cl, Zar, cl, cl, cl, cl, cl, cl, cl, cl, tk19⟩ tk97
  | L1 v1 v2 E0 v7 v8 v10 =>
   obtain ⟨al0, al1, ov1, O0, ov7, ov8, cv10, i0, i1, i2, i3, i4, i5, i6, i7, i8, i9⟩ := hs
   have lb_v1 := ov1.1
   have lb_v7 := ov7.1
   have lb_v8 := ov8.1
   subst al0
   subst al1
   show Tot (Z13 v1 v2 E0 v7 v8 v10).den _
   dsimp only [Z13, LT.den]
   have q1 := ov1.1
   refine tD (fun h2 => ?_) (fun h2 => ?_)
   ·exact tL ⟨rfl, rfl, ov1, O0, ov7, ov8, cl, cl, cl, Zar, cl, cl, cl, cl, cl, cl, cl, cl, tk19⟩ tk97
   ·refine tB (Zayc v1 v7 v8 ov1 ov7 ov8 cl) (fun x3 h4 => ?_)
    have eh4_0 := h4
    exact tR (by grind)
  | L2 v1 v2 E0 v7 v8 v10 v11 =>
   obtain ⟨al0, al1, ov1, O0, ov7, ov8, cv11, cv10, bd8, i0, i1, i2, i3, i4, i5, i6, i7, i8, i9⟩ := hs
   have lb_v1 := ov1.1
   have lb_v7 := ov7.1
   have lb_v8 := ov8.1
   subst al0
   subst al1
   show Tot (Z14 v1 v2 E0 v7 v8 v10 v11).den _
   dsimp only [Z14, LT.den]
   have lx_0 : v1.length * 8 ≤ 140737488351232 := ov1.1
   have q1 := ov1.1
   refine tD (fun h2 => ?_) (fun h2 => ?_)
   ·refine tB (tI (by omega) (by omega)) (fun x3 h4 => ?_)
    have ch4 := i0 _ h4.1
    refine tB (tI (by omega) (by omega)) (fun x5 h6 => ?_)
    have oh6 : (SzL 1 (fun _ => True)) x5 := ov8.2 x5 h6.1
    have mh6 := h6.1; have nh6 := i9 _ h6.1
    refine tB (tI (by omega) (by omega)) (fun x7 h8 => ?_)
    have ch8 := i0 _ h8.1
    refine tB (Zas9 E0 x3 x7 v2 O0 cl cl cl cl cl cl cl cl cl cl) (fun x9 h10 => ?_)
    refine tB (tI (by omega) (by omega)) (fun x11 h12 => ?_)
    refine tB (Tot.setM) (fun x13 h14 => ?_)
    have lh14 : x13.length = v8.length := by rw [h14, List.length_set]
    refine qw (v11 + 1) fun q15 q16 => ?_
    exact tL ⟨rfl, rfl, ov1, O0, ov7, (SzL.setM h14 ov8 oh6), cl, cl, cl, Zar, cl, cl, cl, cl, cl, cl, cl, cl, tk19⟩ tk97
   ·refine qw (v10 + 1) fun q17 q18 => ?_
    exact tL ⟨rfl, rfl, ov1, O0, ov7, ov8, cl, Zar, cl, cl, cl, cl, cl, cl, cl, cl, tk19⟩ tk97
abbrev Zaih (a0 : (List Int)) (a1 : Int) (r : (List Int)) : Prop := ((SzL 8 (fun _ => True)) r) ∧ (r = a0.filter fun y => y != a1)
def Zana (a0 : (List Int)) (a1 : Int) : Zjt → Prop
 | .L0 v0 v1 v5 v6 => (v0 = a0) ∧ (v1 = a1) ∧ ((SzL 8 (fun _ => True)) v0) ∧ ((SzL 8 (fun _ => True)) v5) ∧ (0 ≤ v6) ∧ (v5.length ≤ v6.toNat) ∧ (v6.toNat ≤ v0.length) ∧ (v5 = (v0.take v6.toNat).filter fun y => y != v1)
def Z4i : Zjt → M6
 | .L0 v0 v1 v5 v6 => (1, ((v0.length : Int) - v6).toNat, 1000000, 0, 0, 0)
theorem Zanb (a0 : (List Int)) (a1 : Int) (oa0 : (SzL 8 (fun _ => True)) a0) : Tot (Z15 a0 a1) (Zaih a0 a1) := by
 unfold Z15
 refine tX (Inv := (Zana a0 a1)) (μ := Z4i) (m := (1000000, 0, 0, 0, 0, 0)) ?_ ?_
 ·have lb_a0 := oa0.1
  dsimp only [Z7n, LT.den]
  exact tL ⟨rfl, rfl, oa0, SzL.nil, cl, cl, cl, tk8⟩ tk73
 ·intro s hs
  cases s with
  | L0 v0 v1 v5 v6 =>
   obtain ⟨al0, al1, ov0, ov5, cv6, i0, i1, i2⟩ := hs
   have lb_v0 := ov0.1
   have lb_v5 := ov5.1
   subst al0
   subst al1
   show Tot (Zrn v0 v1 v5 v6).den _
   dsimp only [Zrn, LT.den]
   have q1 := ov0.1
   refine tD (fun h2 => ?_) (fun h2 => ?_)
   ·refine tB (tI (by omega) (by omega)) (fun x3 h4 => ?_)
    have mh4 := h4.2
    refine tN (fun h5 => ?_) (fun h5 => ?_)
    ·have q6 : (SzL 8 (fun _ => True)) ([x3] : (List Int)) := ⟨by simp only [List.length_cons, List.length_nil]; omega, fun _ _ => trivial⟩
     have q9 := ov5.1
     refine tB (tA Zdt (by decide)) (fun x7 h8 => ?_)
     have lh8 : x7.length = v5.length + 1 := by rw [h8, List.length_append]; rfl
     refine qw (v6 + 1) fun q10 q11 => ?_
     exact tL ⟨rfl, rfl, ov0, ⟨lo, fun _ _ => trivial⟩, cl, cl, cl, tk8⟩ tk73
    ·refine qw (v6 + 1) fun q12 q13 => ?_
     exact tL ⟨rfl, rfl, ov0, ov5, cl, cl, cl, tk8⟩ tk73
   ·exact tR ⟨ov5, (by exact Zaz9 (by assumption) (by omega))⟩
abbrev Zanc (a0 : Zc) (a1 : Int) (r : (Zc × (List Int))) : Prop := (Zy r.1) ∧ ((SzL 8 (fun _ => True)) r.2) ∧ (r.1.S.Objects.length = a0.S.Objects.length) ∧ (r.1.L.length = a0.L.length) ∧ (r.1.All.length = r.1.S.Objects.length) ∧ (r.1.Blank.length = r.1.S.Objects.length) ∧ (r.1.Begun.length = r.1.L.length) ∧ (r.1.Sets.length = r.1.L.length)
def Zap9 (a0 : Zc) (a1 : Int) : Zin → Prop
 | .L0 v1 E0 E1 v6 v7 => (v1 = a1) ∧ (Zy E0) ∧ (Zy E1) ∧ ((SzL 8 (fun _ => True)) v6) ∧ (0 ≤ v7) ∧ (E0.S.Objects.length = a0.S.Objects.length) ∧ (E0.L.length = a0.L.length) ∧ (E0.All.length = E0.S.Objects.length) ∧ (E0.Blank.length = E0.S.Objects.length) ∧ (E0.Begun.length = E0.L.length) ∧ (E0.Sets.length = E0.L.length) ∧ (a0.S.Objects.length ≤ 60) ∧ (a0.L.length ≤ 10000) ∧ (v6.Nodup) ∧ (∀ x, x ∈ v6 → 0 ≤ x ∧ x < v7) ∧ (v6.length ≤ v7.toNat) ∧ (v7.toNat ≤ E0.L.length)
 | .L1 v1 E0 E1 v6 v8 v9 v10 => (v1 = a1) ∧ (Zy E0) ∧ (Zy E1) ∧ ((SzL 8 (fun _ => True)) v6) ∧ ((SzL 8 (fun _ => True)) v8) ∧ (0 ≤ v10) ∧ (E0.S.Objects.length = a0.S.Objects.length) ∧ (E0.L.length = a0.L.length) ∧ (E0.All.length = E0.S.Objects.length) ∧ (E0.Blank.length = E0.S.Objects.length) ∧ (E0.Begun.length = E0.L.length) ∧ (E0.Sets.length = E0.L.length) ∧ (a0.S.Objects.length ≤ 60) ∧ (a0.L.length ≤ 10000) ∧ (v6.Nodup) ∧ (∀ x, x ∈ v6 → 0 ≤ x ∧ x < (E0.L.length : Int)) ∧ ((v6.length : Int) = v9 - v10) ∧ (v10 ≤ v9) ∧ (v9 ≤ 10000) ∧ (v8.length ≤ v10.toNat)
def Z71 : Zin → M6
 | .L0 v1 E0 E1 v6 v7 => (3, ((E0.L.length : Int) - v7).toNat, 1000000, 0, 0, 0)
 | .L1 v1 E0 E1 v6 v8 v9 v10 => (1, (v9 - v10).toNat, 1000000, 0, 0, 0)
theorem Zaqa (a0 : Zc) (a1 : Int) (oa0 : Zy a0) (h0 : a0.All.length = a0.S.Objects.length) (h1 : a0.Blank.length = a0.S.Objects.length) (h2 : a0.Begun.length = a0.L.length) (h3 : a0.Sets.length = a0.L.length) (h4 : a0.S.Objects.length ≤ 60) (h5 : a0.L.length ≤ 10000) : Tot (Z5n a0 a1) (Zanc a0 a1) := by
 unfold Z5n
 refine tX (Inv := (Zap9 a0 a1)) (μ := Z71) (m := (1000000, 0, 0, 0, 0, 0)) ?_ ?_
 ·dsimp only [Zaa4, LT.den]
  refine tE (fun h1 => ?_) (fun h1 => ?_)
  ·refine tB (Zam3 a0 oa0 cl cl cl cl cl cl) (fun x2 h3 => ?_)
   have eh3_1 := h3.2.1
   have eh3_2 := h3.2.2.1
   have eh3_3 := h3.2.2.2.1
   have eh3_4 := h3.2.2.2.2.1
   have eh3_5 := h3.2.2.2.2.2.1
   have eh3_6 := h3.2.2.2.2.2.2
   exact tL ⟨rfl, h3.1, ⟨⟨SzL.nil, SzL.nil, SzL.nil, SzL.nil, SzL.nil, SzL.nil, SzL.nil, SzL.nil⟩, SzL.nil, SzL.nil, SzL.nil, SzL.nil, SzL.nil⟩, SzL.nil, cl, cl, cl, cl, cl, cl, cl, cl, cl, tk11, tk40, cl, cl⟩ tk79
  ·exact tL ⟨rfl, oa0, ⟨⟨SzL.nil, SzL.nil, SzL.nil, SzL.nil, SzL.nil, SzL.nil, SzL.nil, SzL.nil⟩, SzL.nil, SzL.nil, SzL.nil, SzL.nil, SzL.nil⟩, SzL.nil, cl, cl, cl, cl, cl, cl, cl, cl, cl, tk11, tk40, cl, cl⟩ tk79
 ·intro s hs
  cases s with
  | L0 v1 E0 E1 v6 v7 =>
   obtain ⟨al0, O0, O1, ov6, cv7, i0, i1, i2, i3, i4, i5, i6, i7, i8, i9, i10, i11⟩ := hs
   have lb_v6 := ov6.1
   subst al0
   show Tot (Zuk v1 E0 E1 v6 v7).den _
   dsimp only [Zuk, LT.den]
   have q1 := O0.2.2.1.1
   refine tD (fun h2 => ?_) (fun h2 => ?_)
   ·refine tB (tI (by omega) (by omega)) (fun x3 h4 => ?_)
    have oh4 : Z7 x3 := O0.2.2.1.2 x3 h4.1
    refine tB (Zam5 x3 v1 oh4) (fun x5 h6 => ?_)
    refine tF (fun h7 => ?_) (fun h7 => ?_)
    ·have q8 : (SzL 8 (fun _ => True)) ([v7] : (List Int)) := ⟨by simp only [List.length_cons, List.length_nil]; omega, fun _ _ => trivial⟩
     have q11 := ov6.1
     refine tB (tA Zdt (by decide)) (fun x9 h10 => ?_)
     have lh10 : x9.length = v6.length + 1 := by rw [h10, List.length_append]; rfl
     refine qw (v7 + 1) fun q12 q13 => ?_
     exact tL ⟨rfl, O0, O1, ⟨lo, fun _ _ => trivial⟩, cl, cl, cl, cl, cl, cl, cl, cl, cl, tk11, tk40, cl, cl⟩ tk79
    ·refine qw (v7 + 1) fun q14 q15 => ?_
     exact tL ⟨rfl, O0, O1, ov6, cl, cl, cl, cl, cl, cl, cl, cl, cl, tk11, tk40, cl, cl⟩ tk79
   ·have q16 := ov6.1
    exact tL ⟨rfl, O0, O1, ov6, SzL.nil, cl, cl, cl, cl, cl, cl, cl, cl, cl, tk11, (by intro x hx; have := i9 x; grind), cl, cl, cl, cl⟩ tk79
  | L1 v1 E0 E1 v6 v8 v9 v10 =>
   obtain ⟨al0, O0, O1, ov6, ov8, cv10, i0, i1, i2, i3, i4, i5, i6, i7, i8, i9, i10, i11, i12, i13⟩ := hs
   have lb_v6 := ov6.1
   have lb_v8 := ov8.1
   subst al0
   show Tot (Zul v1 E0 E1 v6 v8 v9 v10).den _
   dsimp only [Zul, LT.den]
   refine tD (fun h1 => ?_) (fun h1 => ?_)
   ·refine tB (Zaye E0 v6 v1 O0 ov6 cl cl cl cl cl cl Zar cl) (fun x2 h3 => ?_)
    have eh3_0 := h3
    have dh3 : x2 ∈ v6 := (List.exists_mem_of_length_pos (l := v6) (by omega)).elim fun y hy => eh3_0 y hy; have gh3 := i9 _ dh3
    have q4 : (SzL 8 (fun _ => True)) ([x2] : (List Int)) := ⟨by simp only [List.length_cons, List.length_nil]; omega, fun _ _ => trivial⟩
    have q7 := ov8.1
    refine tB (tA Zdt (by decide)) (fun x5 h6 => ?_)
    have lh6 : x5.length = v8.length + 1 := by rw [h6, List.length_append]; rfl
    refine tB (Z0k E0 x2 v1 O0 cl cl cl cl cl cl cl cl) (fun x8 h9 => ?_)
    have eh9_1 := h9.2.1
    have eh9_2 := h9.2.2.1
    have eh9_3 := h9.2.2.2.1
    have eh9_4 := h9.2.2.2.2.1
    have eh9_5 := h9.2.2.2.2.2.1
    have eh9_6 := h9.2.2.2.2.2.2
    refine tB (Zanb v6 x2 ov6) (fun x10 h11 => ?_)
    have eh11_1 := h11.2
    have wh11 : x10.length + 1 = v6.length := by rw [eh11_1]; exact Zayu (by assumption) (by assumption)
    refine qw (v10 + 1) fun q12 q13 => ?_
    exact tL ⟨rfl, h9.1, O1, h11.1, ⟨lo, fun _ _ => trivial⟩, cl, cl, cl, cl, cl, cl, cl, cl, cl, tk11, (by intro x hx; have := i9 x; grind), cl, cl, cl, cl⟩ tk79
   ·exact tR ⟨O0, ov8, cl, cl, cl, cl, cl, cl⟩
def Zazr (a0 : (List Zl)) (a1 : Zb) : Ztu → Prop
 | .L0 E0 v6 => (Zy E0) ∧ (0 ≤ v6) ∧ (E0.All.length = E0.S.Objects.length) ∧ (E0.Blank.length = E0.S.Objects.length) ∧ (E0.Begun.length = E0.L.length) ∧ (E0.Sets.length = E0.L.length) ∧ (E0.S.Objects.length ≤ 60) ∧ (E0.L.length ≤ 10000) ∧ (E0.S.Objects.length = a1.Objects.length)
def Z6d : Ztu → M6
 | .L0 E0 v6 => (1, (8 + 1 - v6).toNat, 1000000, 0, 0, 0)
theorem Zsj (a0 : (List Zl)) (a1 : Zb) (oa0 : (SzL 176 Zad) a0) (oa1 : Zq a1) (h0 : ∀ c, c ∈ a0 → c.Abilities.length ≤ 8) (h1 : a1.Objects.length ≤ 60) (h2 : a1.Conts.length ≤ 8) : Tot (Zapb a0 a1) (fun r => ((SzL 176 Zt) r) ∧ (r.length = a1.Objects.length)) := by
 unfold Zapb
 refine tX (Inv := (Zazr a0 a1)) (μ := Z6d) (m := (1000000, 0, 0, 0, 0, 0)) ?_ ?_
 ·have lb_a0 := oa0.1
  dsimp only [Zarh, LT.den]
  refine tB (Zas0 a0 a1 oa0 oa1 Zar cl cl) (fun x1 h2 => ?_)
  have eh2_1 := h2.2.1
  have eh2_2 := h2.2.2.1
  have eh2_3 := h2.2.2.2.1
  have eh2_4 := h2.2.2.2.2.1
  have eh2_5 := h2.2.2.2.2.2.1
  have eh2_6 := h2.2.2.2.2.2.2
  exact tL ⟨h2.1, cl, cl, cl, cl, cl, cl, cl, cl⟩ (by unfold Z6d lt6; dsimp only; omega)
 ·intro s hs
  cases s with
  | L0 E0 v6 =>
   obtain ⟨O0, cv6, i0, i1, i2, i3, i4, i5, i6⟩ := hs
   show Tot (Z5o E0 v6).den _
   dsimp only [Z5o, LT.den]
   refine tD (fun h1 => ?_) (fun h1 => ?_)
   ·refine tB (Zaqa E0 v6 O0 cl cl cl cl cl cl) (fun x2 h3 => ?_)
    have eh3_2 := h3.2.2.1
    have eh3_3 := h3.2.2.2.1
    have eh3_4 := h3.2.2.2.2.1
    have eh3_5 := h3.2.2.2.2.2.1
    have eh3_6 := h3.2.2.2.2.2.2.1
    have eh3_7 := h3.2.2.2.2.2.2.2
    refine qw (v6 + 1) fun q4 q5 => ?_
    exact tL ⟨h3.1, cl, cl, cl, cl, cl, cl, cl, cl⟩ (by unfold Z6d lt6; dsimp only; omega)
   ·exact tR ⟨O0.2.1, cl⟩
def Zatc (a0 : Zb) (a1 : Int) : Zm0 → Prop
 | .L0 v1 E0 v5 => (E0 = a0) ∧ (v1 = a1) ∧ (Zq E0) ∧ (0 ≤ v5) ∧ (Z5v E0.Objects v1 v5)
def Zy3 : Zm0 → M6
 | .L0 v1 E0 v5 => (1, ((E0.Objects.length : Int) - v5).toNat, 1000000, 0, 0, 0)
theorem Z72 (a0 : Zb) (a1 : Int) (oa0 : Zq a0) : Tot (Zaa6 a0 a1) (fun r => (r = ixO a0.Objects a1)) := by
 unfold Zaa6
 refine tX (Inv := (Zatc a0 a1)) (μ := Zy3) (m := (1000000, 0, 0, 0, 0, 0)) ?_ ?_
 ·dsimp only [Zafm, LT.den]
  exact tL ⟨rfl, rfl, oa0, cl, tk22⟩ (by unfold Zy3 lt6; dsimp only; omega)
 ·intro s hs
  cases s with
  | L0 v1 E0 v5 =>
   obtain ⟨al0, al1, O0, cv5, i0⟩ := hs
   subst al0
   subst al1
   show Tot (Zyb v1 E0 v5).den _
   dsimp only [Zyb, LT.den]
   have q1 := O0.2.1.1
   refine tD (fun h2 => ?_) (fun h2 => ?_)
   ·refine tB (tI (by omega) (by omega)) (fun x3 h4 => ?_)
    have mh4 := h4.2
    refine tE (fun h5 => ?_) (fun h5 => ?_)
    ·exact tR tk16
    ·refine qw (v5 + 1) fun q6 q7 => ?_
     exact tL ⟨rfl, rfl, O0, cl, tk22⟩ (by unfold Zy3 lt6; dsimp only; omega)
   ·exact tR tk16
end Go.PW
