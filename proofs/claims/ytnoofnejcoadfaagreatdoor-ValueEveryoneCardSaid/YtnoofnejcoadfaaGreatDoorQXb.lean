import Derived.Test.YtnoofnejcoadfaaGreatDoorQX
set_option linter.all false
set_option maxRecDepth 100000
namespace Go.PW
def Zao9 : Zst → Prop
 | .L0 v0 E0 v5 => ((SzL 176 Zal) v0) ∧ (Zp E0) ∧ (0 ≤ v5)
def Z3q : Zst → M6
 | .L0 v0 E0 v5 => (1, ((E0.Extra.length : Int) - v5).toNat, 1000000, 0, 0, 0)
theorem Zapa (a0 : (List Zq)) (a1 : Zb) (oa0 : (SzL 176 Zal) a0) (oa1 : Zp a1) : Tot (Zaj2 a0 a1) (fun r => True) := by
 unfold Zaj2
 refine tX (Inv := Zao9) (μ := Z3q) (m := (1000000, 0, 0, 0, 0, 0)) ?_ ?_
 ·have lb_a0 := oa0.1
  dsimp only [Zaj0, LT.den]
  refine tB (Zct a1.NextId 1 1000000) (fun x1 h2 => ?_)
  have eh2_0 := h2
  refine tO (fun h3 => ?_) (fun h3 => ?_)
  ·exact tR trivial
  ·refine tB (Zct a1.NextStamp 1 1000000) (fun x4 h5 => ?_)
   have eh5_0 := h5
   refine tO (fun h6 => ?_) (fun h6 => ?_)
   ·exact tR trivial
   ·refine tB (Zct a1.Turn 0 500) (fun x7 h8 => ?_)
    have eh8_0 := h8
    refine tO (fun h9 => ?_) (fun h9 => ?_)
    ·exact tR trivial
    ·refine tB (Zct a1.Step 0 10) (fun x10 h11 => ?_)
     have eh11_0 := h11
     refine tO (fun h12 => ?_) (fun h12 => ?_)
     ·exact tR trivial
     ·have q13 := oa1.2.1.1
      refine tD (fun h14 => ?_) (fun h14 => ?_)
      ·exact tR trivial
      ·refine tB (Zacg a1 oa1) (fun x15 h16 => ?_)
       refine tO (fun h17 => ?_) (fun h17 => ?_)
       ·exact tR trivial
       ·refine tB (Zei a1 a1.Active oa1) (fun x18 h19 => ?_)
        have eh19_0 := h19
        refine tO (fun h20 => ?_) (fun h20 => ?_)
        ·exact tR trivial
        ·refine tB (Zei a1 a1.Priority oa1) (fun x21 h22 => ?_)
         have eh22_0 := h22
         refine tO (fun h23 => ?_) (fun h23 => ?_)
         ·exact tR trivial
         ·have q24 := oa1.1.1
          refine tB (Zct a1.Passes 0 (a1.Players.length : Int)) (fun x25 h26 => ?_)
          have eh26_0 := h26
          refine tO (fun h27 => ?_) (fun h27 => ?_)
          ·exact tR trivial
          ·have q28 := oa1.2.2.2.2.2.2.2.1
           refine tD (fun h29 => ?_) (fun h29 => ?_)
           ·exact tR trivial
           ·refine tB (Zct a1.Over 0 2) (fun x30 h31 => ?_)
            have eh31_0 := h31
            refine tO (fun h32 => ?_) (fun h32 => ?_)
            ·exact tR trivial
            ·exact tL ⟨oa0, oa1, cl⟩ (by unfold Z3q lt6; dsimp only; omega)
 ·intro s hs
  cases s with
  | L0 v0 E0 v5 =>
   obtain ⟨ov0, ob30000000, cv5⟩ := hs
   have lb_v0 := ov0.1
   show Tot (Z2c v0 E0 v5).den _
   dsimp only [Z2c, LT.den]
   have q1 := ob30000000.2.2.2.2.2.2.2.1
   refine tD (fun h2 => ?_) (fun h2 => ?_)
   ·refine tB (tI (by omega) (by omega)) (fun x3 h4 => ?_)
    refine tB (Zei E0 x3 ob30000000) (fun x5 h6 => ?_)
    have eh6_0 := h6
    refine tO (fun h7 => ?_) (fun h7 => ?_)
    ·exact tR trivial
    ·refine qw (v5 + 1) fun q8 q9 => ?_
     exact tL ⟨ov0, ob30000000, cl⟩ (by unfold Z3q lt6; dsimp only; omega)
   ·refine tE (fun h10 => ?_) (fun h10 => ?_)
    ·refine tB (Zei E0 E0.Winner ob30000000) (fun x11 h12 => ?_)
     have eh12_0 := h12
     refine tO (fun h13 => ?_) (fun h13 => ?_)
     ·exact tR trivial
     ·refine tN (fun h14 => ?_) (fun h14 => ?_)
      ·refine tN (fun h15 => ?_) (fun h15 => ?_)
       ·exact tR trivial
       ·refine tB (Zio v0 E0 ov0 ob30000000) (fun x16 h17 => ?_)
        refine tF (fun h18 => ?_) (fun h18 => ?_)
        ·refine tB (Zk2 E0 ob30000000) (fun x19 h20 => ?_)
         exact tR trivial
        ·exact tR trivial
      ·refine tB (Zio v0 E0 ov0 ob30000000) (fun x21 h22 => ?_)
       refine tF (fun h23 => ?_) (fun h23 => ?_)
       ·refine tB (Zk2 E0 ob30000000) (fun x24 h25 => ?_)
        exact tR trivial
       ·exact tR trivial
    ·refine tN (fun h26 => ?_) (fun h26 => ?_)
     ·refine tN (fun h27 => ?_) (fun h27 => ?_)
      ·exact tR trivial
      ·refine tB (Zio v0 E0 ov0 ob30000000) (fun x28 h29 => ?_)
       refine tF (fun h30 => ?_) (fun h30 => ?_)
       ·refine tB (Zk2 E0 ob30000000) (fun x31 h32 => ?_)
        exact tR trivial
       ·exact tR trivial
     ·refine tB (Zio v0 E0 ov0 ob30000000) (fun x33 h34 => ?_)
      refine tF (fun h35 => ?_) (fun h35 => ?_)
      ·refine tB (Zk2 E0 ob30000000) (fun x36 h37 => ?_)
       exact tR trivial
      ·exact tR trivial
abbrev Zad7 (a0 : (List Zq)) (a1 : Zb) (r : Bool) : Prop := (r = true → a1.Objects.length ≤ 60 ∧ a1.Conts.length ≤ 8 ∧ a1.Players.length ≤ 4 ∧ ∀ c, c ∈ a0 → c.Abilities.length ≤ 8)
def Zagl (a0 : (List Zq)) (a1 : Zb) : Zkl → Prop
 | .L0 v0 E0 v5 => (v0 = a0) ∧ (E0 = a1) ∧ ((SzL 176 Zal) v0) ∧ (Zp E0) ∧ (0 ≤ v5) ∧ (E0.Objects.length ≤ 60) ∧ (E0.Conts.length ≤ 8) ∧ (E0.Players.length ≤ 4)
def Ztw : Zkl → M6
 | .L0 v0 E0 v5 => (1, ((E0.Players.length : Int) - v5).toNat, 1000000, 0, 0, 0)
theorem Zagm (a0 : (List Zq)) (a1 : Zb) (oa0 : (SzL 176 Zal) a0) (oa1 : Zp a1) : Tot (Z2d a0 a1) (Zad7 a0 a1) := by
 unfold Z2d
 refine tX (Inv := (Zagl a0 a1)) (μ := Ztw) (m := (1000000, 0, 0, 0, 0, 0)) ?_ ?_
 ·have lb_a0 := oa0.1
  dsimp only [Z58, LT.den]
  have q1 := oa0.1
  refine tD (fun h2 => ?_) (fun h2 => ?_)
  ·exact tR Zqc
  ·have q3 := oa1.1.1
   refine tD (fun h4 => ?_) (fun h4 => ?_)
   ·exact tR Zqc
   ·have q5 := oa1.2.1.1
    refine tD (fun h6 => ?_) (fun h6 => ?_)
    ·exact tR Zqc
    ·have q7 := oa1.2.2.1.1
     refine tD (fun h8 => ?_) (fun h8 => ?_)
     ·exact tR Zqc
     ·have q9 := oa1.2.2.2.1.1
      refine tD (fun h10 => ?_) (fun h10 => ?_)
      ·exact tR Zqc
      ·have q11 := oa1.2.2.2.2.1.1
       refine tD (fun h12 => ?_) (fun h12 => ?_)
       ·exact tR Zqc
       ·have q13 := oa1.2.2.2.2.2.1.1
        refine tD (fun h14 => ?_) (fun h14 => ?_)
        ·exact tR Zqc
        ·have q15 := oa1.2.2.2.2.2.2.1.1
         refine tD (fun h16 => ?_) (fun h16 => ?_)
         ·exact tR Zqc
         ·have q17 := oa1.2.2.2.2.2.2.2.1
          refine tD (fun h18 => ?_) (fun h18 => ?_)
          ·exact tR Zqc
          ·exact tL ⟨rfl, rfl, oa0, oa1, cl, cl, cl, cl⟩ (by unfold Ztw lt6; dsimp only; omega)
 ·intro s hs
  cases s with
  | L0 v0 E0 v5 =>
   obtain ⟨al0, al1, ov0, ob30000000, cv5, i0, i1, i2⟩ := hs
   have lb_v0 := ov0.1
   subst al0
   subst al1
   show Tot (Zsu v0 E0 v5).den _
   dsimp only [Zsu, LT.den]
   have q1 := ob30000000.1.1
   refine tD (fun h2 => ?_) (fun h2 => ?_)
   ·refine tB (tI (by omega) (by omega)) (fun x3 h4 => ?_)
    have oh4 : Zbx x3 := ob30000000.1.2 x3 h4.1
    have q5 := oh4.1.1
    have q6 := oh4.2.1.1
    refine qw ((x3.Library.length : Int) + (x3.Hand.length : Int)) fun q7 q8 => ?_
    have q9 := oh4.2.2.1
    refine qw ((IntKind.wrap .i64 ((x3.Library.length : Int) + (x3.Hand.length : Int))) + (x3.Graveyard.length : Int)) fun q10 q11 => ?_
    refine tD (fun h12 => ?_) (fun h12 => ?_)
    ·exact tR Zqc
    ·refine qw (v5 + 1) fun q13 q14 => ?_
     exact tL ⟨rfl, rfl, ov0, ob30000000, cl, cl, cl, cl⟩ (by unfold Ztw lt6; dsimp only; omega)
   ·refine tB (Zagd v0 ov0) (fun x15 h16 => ?_)
    have eh16_0 := h16
    refine tE (fun h17 => ?_) (fun h17 => ?_)
    ·refine tB (Zapa v0 E0 ov0 ob30000000) (fun x18 h19 => ?_)
     exact tR Zqc
    ·exact tR Zqc
theorem Zaci (a0 : Zt) (oa0 : Zd8 a0) : Tot (Zwe a0) (fun r => (Zd8 r) ∧ (r = usV a0)) := by
 unfold Zwe
 refine tZ ?_
 dsimp only [Z0b, LT.den]
 refine tE (fun h1 => ?_) (fun h1 => ?_)
 ·exact tR ⟨(SzS.nil), (by unfold usV; grind)⟩
 ·refine tE (fun h2 => ?_) (fun h2 => ?_)
  ·exact tR ⟨oa0, (by unfold usV; grind)⟩
  ·refine tE (fun h3 => ?_) (fun h3 => ?_)
   ·exact tR ⟨oa0, (by unfold usV; grind)⟩
   ·exact tR ⟨oa0, (by unfold usV; grind)⟩
theorem Zagn (a0 : Zc) (oa0 : Zaq a0) : Tot (Zuz a0) (fun r => r = Z27 a0) := ⟨_, Z28 a0, rfl⟩
theorem Z84 (a0 : Int) : Tot (Zs0 a0) (fun r => (r = [] ↔ ¬ (0 ≤ a0 ∧ a0 ≤ 2))) := by
 unfold Zs0
 refine tZ ?_
 dsimp only [Zxs, LT.den]
 refine tD (fun h1 => ?_) (fun h1 => ?_)
 ·exact tR Z8p
 ·refine tD (fun h2 => ?_) (fun h2 => ?_)
  ·exact tR Z8p
  ·refine tB (tI (by omega) (by have e : (A3.list (⟨[112, 108, 117, 115], [109, 105, 110, 117, 115], [99, 104, 97, 114, 103, 101]⟩ : A3 (List UInt8))).length = 3 := rfl; omega)) (fun x3 h4 => ?_)
   have mh4 := h4.1
   exact tR Z8p
theorem Zago (a0 : Zt) (oa0 : Zd8 a0) : Tot (Z2h a0) (fun r => (r = amV a0)) := by
 unfold Z2h
 refine tZ ?_
 dsimp only [Z6b, LT.den]
 refine tD (fun h1 => ?_) (fun h1 => ?_)
 ·exact tR Zd9
 ·refine tD (fun h2 => ?_) (fun h2 => ?_)
  ·exact tR Zd9
  ·refine tB (Zaci a0 oa0) (fun x3 h4 => ?_)
   have eh4_1 := h4.2
   refine tO (fun h5 => ?_) (fun h5 => ?_)
   ·exact tR Zd9
   ·refine tE (fun h6 => ?_) (fun h6 => ?_)
    ·refine tD (fun h7 => ?_) (fun h7 => ?_)
     ·exact tR Zd9
     ·exact tR Zd9
    ·refine tE (fun h8 => ?_) (fun h8 => ?_)
     ·refine tD (fun h9 => ?_) (fun h9 => ?_)
      ·refine tD (fun h10 => ?_) (fun h10 => ?_)
       ·refine tB (Zagn a0.Filter oa0) (fun x11 h12 => ?_)
        have eh12_0 := h12
        exact tR Zd9
       ·exact tR Zd9
      ·exact tR Zd9
     ·refine tE (fun h13 => ?_) (fun h13 => ?_)
      ·refine tB (Z84 a0.Counter) (fun x14 h15 => ?_)
       have eh15_0 := h15
       exact tR Zd9
      ·exact tR Zd9
theorem Zk3 (a0 : Int) : Tot (Zpq a0) (fun r => (r = clV a0)) := by
 unfold Zpq
 refine tZ ?_
 dsimp only [Zwg, LT.den]
 exact tR (by rfl)
theorem Zame (a0 : Int) (a1 : Int) : Tot (Zxv a0 a1) (fun r => (r = muV a0 a1)) := by
 unfold Zxv
 refine tZ ?_
 dsimp only [Z2k, LT.den]
 refine tB (Zk3 a0) (fun x1 h2 => ?_)
 have eh2_0 := h2
 refine tB (Zk3 a1) (fun x3 h4 => ?_)
 have eh4_0 := h4
 refine qw (x1 * x3) fun q5 q6 => ?_
 refine tB (Zk3 (IntKind.wrap .i64 (x1 * x3))) (fun x7 h8 => ?_)
 have eh8_0 := h8
 exact tR (by unfold muV; grind)
theorem Zau6 {x : Zd} (h : Zby x) : x.Line.Subs.length ≤ 4611686018427387904 := by
 have : x.Line.Subs.length * 16 ≤ 140737488351232 := h.2.1.1
 omega
theorem Zatj {s : Zb} {all : List Zd} {you src : Int} {f : Zc} (h : Zp s) : SzL 8 (fun _ => True) (Z38 s all you src f) := by
 have h1 : s.Objects.length * 128 ≤ 140737488351232 := h.2.1.1
 have h2 : (Z38 s all you src f).length ≤ s.Objects.length := Zah8 ..
 exact ⟨by omega, fun _ _ => trivial⟩
theorem Zyd (a0 : Zb) (a1 : List Zd) (a2 a3 : Int) (a4 : Zc) (oa0 : Zp a0) (oa1 : (SzL 176 Zby) a1) (oa4 : Zaq a4) : Tot (Zm1 a0 a1 a2 a3 a4) (fun r => ((SzL 8 (fun _ => True)) r) ∧ (r = Z38 a0 a1 a2 a3 a4)) :=
 ⟨_, Zauu a0 a1 a2 a3 a4 oa0.2.1.1 fun t ht => Zau6 (oa1.2 t ht), Zatj oa0, rfl⟩
theorem Zt3 (a0 : Zf) (b0 : Int) : Tot (Zih a0 b0) (fun r => (r = (a0.Id == b0))) := by
 unfold Zih
 refine tZ ?_
 dsimp only [Zlw, LT.den]
 exact tR (by rfl)
def Zdu (a0 : (List Zf)) (b0 : Int) : Zad → Prop
 | .L0 v0 c0 v7 v8 => (v0 = a0) ∧ (c0 = b0) ∧ ((SzL 128 (fun _ => True)) v0) ∧ (0 ≤ v8) ∧ (v7 = (v0.length : Int)) ∧ (Z3a v0 c0 v8)
def Zb4 : Zad → M6
 | .L0 v0 c0 v7 v8 => (1, (v7 - v8).toNat, 1000000, 0, 0, 0)
theorem Zdv (a0 : (List Zf)) (b0 : Int) (oa0 : (SzL 128 (fun _ => True)) a0) : Tot (Za4 a0 b0) (fun r => (r.1 = ixO a0 b0)) := by
 unfold Za4
 refine tX (Inv := (Zdu a0 b0)) (μ := Zb4) (m := (1000000, 0, 0, 0, 0, 0)) ?_ ?_
 ·have lb_a0 := oa0.1
  dsimp only [Zb5, LT.den]
  have q1 := oa0.1
  exact tL ⟨rfl, rfl, oa0, cl, cl, tk22⟩ tk39
 ·intro s hs
  cases s with
  | L0 v0 c0 v7 v8 =>
   obtain ⟨al0, al1, ov0, cv8, i0, i1⟩ := hs
   have lb_v0 := ov0.1
   subst al0
   subst al1
   show Tot (Za1 v0 c0 v7 v8).den _
   dsimp only [Za1, LT.den]
   refine tD (fun h1 => ?_) (fun h1 => ?_)
   ·refine tB (tI (by omega) (by omega)) (fun x2 h3 => ?_)
    have mh3 := h3.2
    refine tB (Zt3 x2 c0) (fun x4 h5 => ?_)
    have eh5_0 := h5
    refine tF (fun h6 => ?_) (fun h6 => ?_)
    ·exact tR tk16
    ·refine qw (v8 + 1) fun q7 q8 => ?_
     exact tL ⟨rfl, rfl, ov0, cl, cl, tk22⟩ tk39
   ·exact tR tk16
theorem Ztx (a0 : Zb) (a1 : (List Zd)) (a2 : Int) (oa0 : Zp a0) (oa1 : (SzL 176 Zby) a1) : Tot (Zs6 a0 a1 a2) (fun r => (Zby r.1) ∧ (r = (trV a1 (ixO a0.Objects a2), decide (0 ≤ ixO a0.Objects a2)))) := by
 unfold Zs6
 refine tZ ?_
 have lb_a1 := oa1.1
 dsimp only [Zxy, LT.den]
 refine tB (Zdv a0.Objects a2 oa0.2.1) (fun x1 h2 => ?_)
 have eh2_0 := h2
 have lh2 := Zab6 a0.Objects a2
 refine tD (fun h3 => ?_) (fun h3 => ?_)
 ·exact tR ⟨⟨(SzS.nil), SzL.nil, SzL.nil⟩, tk12⟩
 ·have q4 := oa1.1
  refine tD (fun h5 => ?_) (fun h5 => ?_)
  ·exact tR ⟨⟨(SzS.nil), SzL.nil, SzL.nil⟩, tk12⟩
  ·refine tB (tI (by omega) (by omega)) (fun x6 h7 => ?_)
   have oh7 : Zby x6 := oa1.2 x6 h7.1
   have mh7 := h7.2
   exact tR ⟨oh7, tk12⟩
theorem Zye (a0 : Zf) (b0 : Int) : Tot (Zjy a0 b0) (fun r => (r = (a0.Id == b0))) := by
 unfold Zjy
 refine tZ ?_
 dsimp only [Znl, LT.den]
 exact tR (by rfl)
def Zd6 (a0 : (List Zf)) (b0 : Int) : Zag → Prop
 | .L0 v0 c0 v7 v8 => (v0 = a0) ∧ (c0 = b0) ∧ ((SzL 128 (fun _ => True)) v0) ∧ (0 ≤ v8) ∧ (v7 = (v0.length : Int)) ∧ (Z3a v0 c0 v8)
def Zcb : Zag → M6
 | .L0 v0 c0 v7 v8 => (1, (v7 - v8).toNat, 1000000, 0, 0, 0)
theorem Zd7 (a0 : (List Zf)) (b0 : Int) (oa0 : (SzL 128 (fun _ => True)) a0) : Tot (Za6 a0 b0) (fun r => (r.1 = ixO a0 b0)) := by
 unfold Za6
 refine tX (Inv := (Zd6 a0 b0)) (μ := Zcb) (m := (1000000, 0, 0, 0, 0, 0)) ?_ ?_
 ·have lb_a0 := oa0.1
  dsimp only [Zcd, LT.den]
  have q1 := oa0.1
  exact tL ⟨rfl, rfl, oa0, cl, cl, tk22⟩ tk42
 ·intro s hs
  cases s with
  | L0 v0 c0 v7 v8 =>
   obtain ⟨al0, al1, ov0, cv8, i0, i1⟩ := hs
   have lb_v0 := ov0.1
   subst al0
   subst al1
   show Tot (Za3 v0 c0 v7 v8).den _
   dsimp only [Za3, LT.den]
   refine tD (fun h1 => ?_) (fun h1 => ?_)
   ·refine tB (tI (by omega) (by omega)) (fun x2 h3 => ?_)
    have mh3 := h3.2
    refine tB (Zye x2 c0) (fun x4 h5 => ?_)
    have eh5_0 := h5
    refine tF (fun h6 => ?_) (fun h6 => ?_)
    ·exact tR tk16
    ·refine qw (v8 + 1) fun q7 q8 => ?_
     exact tL ⟨rfl, rfl, ov0, cl, cl, tk22⟩ tk42
   ·exact tR tk16
theorem Zad8 (a0 : Zb) (a1 : Int) (oa0 : Zp a0) : Tot (Zza a0 a1) (fun r => (r = ixO a0.Objects a1)) := by
 unfold Zza
 refine tZ ?_
 dsimp only [Z2n, LT.den]
 refine tB (Zd7 a0.Objects a1 oa0.2.1) (fun x1 h2 => ?_)
 have eh2_0 := h2
 exact tR (by assumption)
theorem Z0o (a0 : Zb) (a1 : Int) (oa0 : Zp a0) : Tot (Z2p a0 a1) (fun r => (r = fdV a0.Objects a1)) := by
 unfold Z2p
 refine tZ ?_
 dsimp only [Z6h, LT.den]
 refine tB (Zad8 a0 a1 oa0) (fun x1 h2 => ?_)
 have eh2_0 := h2
 have lh2 := Zab6 a0.Objects a1
 refine tD (fun h3 => ?_) (fun h3 => ?_)
 ·exact tR tk27
 ·refine tB (tI (by omega) (by omega)) (fun x4 h5 => ?_)
  have mh5 := h5.2
  exact tR tk27
theorem Zagp (a0 : Zb) (a1 : (List Zd)) (a2 : Zo) (a3 : Zt) (oa0 : Zp a0) (oa1 : (SzL 176 Zby) a1) (oa2 : Zeh a2) (oa3 : Zd8 a3) (h0 : amV a3 = true) (h1 : a3.Kind = 4 → 0 ≤ a3.Counter ∧ a3.Counter ≤ 2) : Tot (Z2r a0 a1 a2 a3) (fun r => (r = raV a0 a1 a2 a3)) := by
 unfold Z2r
 refine tZ ?_
 have lb_a1 := oa1.1
 dsimp only [Z6j, LT.den]
 refine tE (fun h1 => ?_) (fun h1 => ?_)
 ·exact tR Zoo
 ·refine tE (fun h2 => ?_) (fun h2 => ?_)
  ·exact tR Zoo
  ·refine tE (fun h3 => ?_) (fun h3 => ?_)
   ·exact tR Zoo
   ·refine tE (fun h4 => ?_) (fun h4 => ?_)
    ·refine tB (Zyd a0 a1 a2.You a2.Source a3.Filter oa0 oa1 oa3) (fun x5 h6 => ?_)
     have eh6_1 := h6.2
     have q7 := h6.1.1
     refine tB (Zame a3.N (x5.length : Int)) (fun x8 h9 => ?_)
     have eh9_0 := h9
     exact tR Zoo
    ·refine tE (fun h10 => ?_) (fun h10 => ?_)
     ·refine tB (Ztx a0 a1 a2.Source oa0 oa1) (fun x11 h12 => ?_)
      have eh12_1 := h12.2
      exact tR Zoo
     ·refine tE (fun h13 => ?_) (fun h13 => ?_)
      ·refine tB (Z0o a0 a2.Source oa0) (fun x14 h15 => ?_)
       have eh15_0 := h15
       refine tB (tI (by omega) (by have e : (A3.list x14.1.Counters).length = 3 := rfl; omega)) (fun x16 h17 => ?_)
       have mh17 := h17.2
       exact tR Zoo
      ·refine tD (fun h18 => ?_) (fun h18 => ?_)
       ·exact tR Zoo
       ·have q19 := oa0.1.1
        refine tD (fun h20 => ?_) (fun h20 => ?_)
        ·exact tR Zoo
        ·refine tE (fun h21 => ?_) (fun h21 => ?_)
         ·refine tB (tI (by omega) (by omega)) (fun x22 h23 => ?_)
          have oh23 : Zbx x22 := oa0.1.2 x22 h23.1
          have mh23 := h23.2
          exact tR Zoo
         ·refine tB (tI (by omega) (by omega)) (fun x24 h25 => ?_)
          have oh25 : Zbx x24 := oa0.1.2 x24 h25.1
          have mh25 := h25.2
          have q26 := oh25.2.1.1
          exact tR Zoo
theorem Znk (a0 : Zb) (a1 : (List Zd)) (a2 : Zo) (a3 : Zt) (oa0 : Zp a0) (oa1 : (SzL 176 Zby) a1) (oa2 : Zeh a2) (oa3 : Zd8 a3) : Tot (Z8f a0 a1 a2 a3) (fun r => (r = ofV a0 a1 a2 a3)) := by
 unfold Z8f
 refine tZ ?_
 have lb_a1 := oa1.1
 dsimp only [Zabu, LT.den]
 refine tB (Zago a3 oa3) (fun x1 h2 => ?_)
 have eh2_0 := h2
 refine tO (fun h3 => ?_) (fun h3 => ?_)
 ·exact tR (by unfold ofV; grind)
 ·refine tB (Zagp a0 a1 a2 a3 oa0 oa1 oa2 oa3 (by grind) (by exact Zawu (by grind))) (fun x4 h5 => ?_)
  have eh5_0 := h5
  refine tB (Zk3 x4) (fun x6 h7 => ?_)
  have eh7_0 := h7
  exact tR (by unfold ofV; grind)
abbrev Z4n (a0 : Zb) (r : (List Int)) : Prop := ((SzL 8 (fun _ => True)) r) ∧ (r.length ≤ a0.Players.length) ∧ (r = Zeg a0.Players)
def Z85 (a0 : Zb) : Zha → Prop
 | .L0 v3 v7 v8 v9 => ((SzL 8 (fun _ => True)) v3) ∧ ((SzL 152 Zbx) v7) ∧ (0 ≤ v9) ∧ (v8 = (v7.length : Int)) ∧ (v8 = (a0.Players.length : Int)) ∧ (v7 = a0.Players) ∧ (v3 = Zna v7 v9) ∧ (v3.length ≤ v9.toNat) ∧ (v9 ≤ v8)
def Zvf : Zha → M6
 | .L0 v3 v7 v8 v9 => (1, (v8 - v9).toNat, 1000000, 0, 0, 0)
theorem Z86 (a0 : Zb) (oa0 : Zp a0) : Tot (Zm3 a0) (Z4n a0) := by
 unfold Zm3
 refine tX (Inv := (Z85 a0)) (μ := Zvf) (m := (1000000, 0, 0, 0, 0, 0)) ?_ ?_
 ·dsimp only [Zx1, LT.den]
  have q1 := oa0.1.1
  exact tL ⟨SzL.nil, oa0.1, cl, cl, cl, (by first | rfl | assumption), tk5, cl, cl⟩ tk61
 ·intro s hs
  cases s with
  | L0 v3 v7 v8 v9 =>
   obtain ⟨ov3, ov7, cv9, i0, i1, i2, i3, i4, i5⟩ := hs
   have lb_v3 := ov3.1
   have lb_v7 := ov7.1
   show Tot (Zm2 v3 v7 v8 v9).den _
   dsimp only [Zm2, LT.den]
   refine tD (fun h1 => ?_) (fun h1 => ?_)
   ·refine tB (tI (by omega) (by omega)) (fun x2 h3 => ?_)
    have oh3 : Zbx x2 := ov7.2 x2 h3.1
    have mh3 := h3.2
    refine tO (fun h4 => ?_) (fun h4 => ?_)
    ·have q5 : (SzL 8 (fun _ => True)) ([v9] : (List Int)) := ⟨by simp only [List.length_cons, List.length_nil]; omega, fun _ _ => trivial⟩
     have q8 := ov3.1
     refine tB (tA Znb (by decide)) (fun x6 h7 => ?_)
     have lh7 : x6.length = v3.length + 1 := by rw [h7, List.length_append]; rfl
     refine qw (v9 + 1) fun q9 q10 => ?_
     exact tL ⟨⟨lo, fun _ _ => trivial⟩, ov7, cl, cl, cl, (by first | rfl | assumption), tk5, cl, cl⟩ tk61
    ·refine qw (v9 + 1) fun q11 q12 => ?_
     exact tL ⟨ov3, ov7, cl, cl, cl, (by first | rfl | assumption), tk5, cl, cl⟩ tk61
   ·exact tR ⟨ov3, cl, (by rw [← ‹v7 = a0.Players›]; exact Zakf (by assumption) (by omega) (by omega))⟩
theorem Zpt (a0 : Int) : Tot (Zn6 a0) (fun r => (r = false)) := by
 unfold Zn6
 refine tZ ?_
 dsimp only [Zs7, LT.den]
 exact tR (by simp)
theorem Zzt (a0 : Int) (a1 : Int) : Tot (Zle a0 a1) (fun r => ((r = -1 ∧ a0 < a1) ∨ (r = 1 ∧ a1 < a0) ∨ (r = 0 ∧ a0 = a1))) := by
 unfold Zle
 refine tZ ?_
 dsimp only [Zpr, LT.den]
 refine tB (Zpt a0) (fun x1 h2 => ?_)
 have eh2_0 := h2
 refine tB (Zpt a1) (fun x3 h4 => ?_)
 have eh4_0 := h4
 refine tF (fun h5 => ?_) (fun h5 => ?_)
 ·refine tF (fun h6 => ?_) (fun h6 => ?_)
  ·exact tR Z4a
  ·exact tR Z4a
 ·refine tF (fun h7 => ?_) (fun h7 => ?_)
  ·exact tR Z4a
  ·refine tD (fun h8 => ?_) (fun h8 => ?_)
   ·exact tR Z4a
   ·refine tD (fun h9 => ?_) (fun h9 => ?_)
    ·exact tR Z4a
    ·exact tR Z4a
abbrev Zq3 (a0 : Zb) (a1 : Int) (r : (List Int)) : Prop := ((SzL 8 (fun _ => True)) r) ∧ (r.length ≤ 2 * a0.Players.length) ∧ (r = Ztk a0.Players a1)
def Zli (a0 : Zb) (a1 : Int) : Zfs → Prop
 | .L0 v1 E0 => (E0 = a0) ∧ (Zp E0) ∧ ((v1 = -1 ∧ (a1 < 0 ∨ a1 ≥ (E0.Players.length : Int))) ∨ (v1 = a1 ∧ 0 ≤ a1 ∧ a1 < (E0.Players.length : Int)))
 | .L1 v1 v5 v6 v19 v20 v21 => ((SzL 8 (fun _ => True)) v5) ∧ ((SzL 8 (fun _ => True)) v6) ∧ ((SzL 8 (fun _ => True)) v19) ∧ (0 ≤ v21) ∧ ((v1 = -1 ∧ (a1 < 0 ∨ a1 ≥ (a0.Players.length : Int))) ∨ (v1 = a1 ∧ 0 ≤ a1 ∧ a1 < (a0.Players.length : Int))) ∧ (a0.Players.length * 152 ≤ 140737488351232) ∧ (v20 ≤ (a0.Players.length : Int)) ∧ (v19 = Zeg a0.Players) ∧ (v20 = (v19.length : Int)) ∧ (v5 = ((Zeg a0.Players).take v21.toNat).filter fun x => decide (x < v1)) ∧ (v6 = ((Zeg a0.Players).take v21.toNat).filter fun x => decide (v1 < x)) ∧ (v5.length ≤ v21.toNat) ∧ (v6.length ≤ v21.toNat) ∧ (v21 ≤ v20)
def Zip : Zfs → M6
 | .L0 v1 E0 => (2, 0, 0, 0, 0, 0)
 | .L1 v1 v5 v6 v19 v20 v21 => (1, (v20 - v21).toNat, 1000000, 0, 0, 0)
theorem Zgc (a0 : Zb) (a1 : Int) (v1 : Int) (E0 : Zb) (h : (Zli a0 a1) (.L0 v1 E0)) : Tot (Ze2 v1 E0).den (Nx (Zli a0 a1) Zip (2, 0, 0, 0, 0, 0) (Zq3 a0 a1)) := by
 obtain ⟨al0, ob30000000, i0⟩ := h
 subst al0
 dsimp only [Ze2, LT.den]
 have lq := ob30000000.1.1
 refine tB (Z86 E0 ob30000000) (fun x1 h2 => ?_)
 have eh2_1 := h2.2.1
 have eh2_2 := h2.2.2
 have q3 := h2.1.1
 exact tL ⟨SzL.nil, SzL.nil, h2.1, cl, cl, cl, cl, (by assumption), cl, tk4, tk4, cl, cl, cl⟩ tk62
theorem Zty (a0 : Zb) (a1 : Int) (oa0 : Zp a0) : Tot (Zm5 a0 a1) (Zq3 a0 a1) := by
 unfold Zm5
 refine tX (Inv := (Zli a0 a1)) (μ := Zip) (m := (1000000, 0, 0, 0, 0, 0)) ?_ ?_
 ·dsimp only [Zx3, LT.den]
  refine tD (fun h1 => ?_) (fun h1 => ?_)
  ·exact tJ (Zgc a0 a1 (-1) a0 ⟨rfl, oa0, cl⟩)
  ·have q2 := oa0.1.1
   refine tD (fun h3 => ?_) (fun h3 => ?_)
   ·exact tJ (Zgc a0 a1 (-1) a0 ⟨rfl, oa0, cl⟩)
   ·exact tJ (Zgc a0 a1 a1 a0 ⟨rfl, oa0, cl⟩)
 ·intro s hs
  cases s with
  | L0 v1 E0 => exact Zgc a0 a1 v1 E0 hs
  | L1 v1 v5 v6 v19 v20 v21 =>
   obtain ⟨ov5, ov6, ov19, cv21, i0, i1, i2, i3, i4, i5, i6, i7, i8, i9⟩ := hs
   have lb_v5 := ov5.1
   have lb_v6 := ov6.1
   have lb_v19 := ov19.1
   show Tot (Zm4 v1 v5 v6 v19 v20 v21).den _
   dsimp only [Zm4, LT.den, Zip]
   refine tD (fun h1 => ?_) (fun h1 => ?_)
   ·refine tB (tI (by omega) (by omega)) (fun x2 h3 => ?_)
    have mh3 := h3.2
    refine tB (Zzt x2 v1) (fun x4 h5 => ?_)
    have eh5_0 := h5
    refine tE (fun h6 => ?_) (fun h6 => ?_)
    ·have q7 : (SzL 8 (fun _ => True)) ([x2] : (List Int)) := ⟨by simp only [List.length_cons, List.length_nil]; omega, fun _ _ => trivial⟩
     have q10 := ov5.1
     refine tB (tA Znb (by decide)) (fun x8 h9 => ?_)
     have lh9 : x8.length = v5.length + 1 := by rw [h9, List.length_append]; rfl
     refine qw (v21 + 1) fun q11 q12 => ?_
     exact tL ⟨⟨lo, fun _ _ => trivial⟩, ov6, ov19, cl, cl, cl, cl, (by assumption), cl, tk4, tk4, cl, cl, cl⟩ tk62
    ·refine tE (fun h13 => ?_) (fun h13 => ?_)
     ·have q14 : (SzL 8 (fun _ => True)) ([x2] : (List Int)) := ⟨by simp only [List.length_cons, List.length_nil]; omega, fun _ _ => trivial⟩
      have q17 := ov6.1
      refine tB (tA Znb (by decide)) (fun x15 h16 => ?_)
      have lh16 : x15.length = v6.length + 1 := by rw [h16, List.length_append]; rfl
      refine qw (v21 + 1) fun q18 q19 => ?_
      exact tL ⟨ov5, ⟨lo, fun _ _ => trivial⟩, ov19, cl, cl, cl, cl, (by assumption), cl, tk4, tk4, cl, cl, cl⟩ tk62
     ·refine qw (v21 + 1) fun q20 q21 => ?_
      exact tL ⟨ov5, ov6, ov19, cl, cl, cl, cl, (by assumption), cl, tk4, tk4, cl, cl, cl⟩ tk62
   ·have q24 := ov6.1
    have q25 := ov5.1
    refine tB (tA tk48 (by decide)) (fun x22 h23 => ?_)
    have lh23 : x22.length = v6.length + v5.length := by rw [h23, List.length_append]
    try simp only [List.length_cons, List.length_nil, Nat.zero_add] at lh23
    exact tR ⟨⟨lo, fun _ _ => trivial⟩, cl, (by exact Zau3 (by assumption) (by assumption) (by assumption) (by assumption) (by grind))⟩
theorem Ztz (a0 : Zo) (a1 : Int) (oa0 : Zeh a0) : Tot (Zta a0 a1) (fun r => (r = tgV a0.Targets a1)) := by
 unfold Zta
 refine tZ ?_
 dsimp only [Zx5, LT.den]
 refine tD (fun h1 => ?_) (fun h1 => ?_)
 ·exact tR tk43
 ·have q2 := oa0.1
  refine tD (fun h3 => ?_) (fun h3 => ?_)
  ·exact tR tk43
  ·refine qw (a1 - 1) fun q4 q5 => ?_
   refine tB (tI (by omega) (by omega)) (fun x6 h7 => ?_)
   have mh7 := h7.2
   exact tR tk43
def Zfc (a0 : Zb) (a1 : (List Zd)) (a2 : Zo) (a3 : Z4) : Ze3 → Prop
 | .L0 v1 E0 E1 E2 v36 => (E0 = a0) ∧ (v1 = a1) ∧ (E1 = a2) ∧ (E2 = a3) ∧ ((SzL 176 Zby) v1) ∧ (Zp E0) ∧ (Zeh E1) ∧ (Zeq E2) ∧ ((v36 = true ↔ (E2.Kind = 3 ∨ E2.Kind = 8)) ∧ E2.Kind ≠ 1 ∧ E2.Kind ≠ 5 ∧ E2.Kind ≠ 6)
 | .L1 v1 E0 E1 E2 v10 => (E0 = a0) ∧ (v1 = a1) ∧ (E1 = a3) ∧ ((SzL 176 Zby) v1) ∧ (Zp E0) ∧ (Zeq E1) ∧ ((E1.Kind = 3 ∨ E1.Kind = 8) ∧ E1.Kind ≠ 1 ∧ E1.Kind ≠ 5 ∧ E1.Kind ≠ 6 ∧ (E2, v10) = tgV a2.Targets E1.N ∧ ¬ (v10 = true ∧ E2.Object = 0))
def Zlj : Ze3 → M6
 | .L0 v1 E0 E1 E2 v36 => (0, 0, 0, 0, 0, 0)
 | .L1 v1 E0 E1 E2 v10 => (0, 0, 0, 0, 0, 0)
theorem Zhw (a0 : Zb) (a1 : (List Zd)) (a2 : Zo) (a3 : Z4) (v1 : (List Zd)) (E0 : Zb) (E1 : Z4) (E2 : Zx) (v10 : Bool) (h : (Zfc a0 a1 a2 a3) (.L1 v1 E0 E1 E2 v10)) : Tot (Zf4 v1 E0 E1 E2 v10).den (Nx (Zfc a0 a1 a2 a3) Zlj (0, 0, 0, 0, 0, 0) (fun r => ((SzL 8 (fun _ => True)) r) ∧ (r = tlV a0 a1 a2 a3))) := by
 obtain ⟨al0, al1, al2, ov1, ob30000000, ob30000001, i0⟩ := h
 have lb_v1 := ov1.1
 subst al0
 subst al1
 subst al2
 dsimp only [Zf4, LT.den]
 refine tB (Ztx E0 v1 E2.Object ob30000000 ov1) (fun x1 h2 => ?_)
 have eh2_1 := h2.2
 refine tF (fun h3 => ?_) (fun h3 => ?_)
 ·refine tF (fun h4 => ?_) (fun h4 => ?_)
  ·refine tE (fun h5 => ?_) (fun h5 => ?_)
   ·have q6 : (SzL 8 (fun _ => True)) ([x1.1.Control] : (List Int)) := ⟨by simp only [List.length_cons, List.length_nil]; omega, fun _ _ => trivial⟩
    exact tR ⟨q6, Zrd⟩
   ·exact tR ⟨SzL.nil, Zrd⟩
  ·exact tR ⟨SzL.nil, Zrd⟩
 ·exact tR ⟨SzL.nil, Zrd⟩
theorem Zhx (a0 : Zb) (a1 : (List Zd)) (a2 : Zo) (a3 : Z4) (v1 : (List Zd)) (E0 : Zb) (E1 : Zo) (E2 : Z4) (v36 : Bool) (h : (Zfc a0 a1 a2 a3) (.L0 v1 E0 E1 E2 v36)) : Tot (Zf5 v1 E0 E1 E2 v36).den (Nx (Zfc a0 a1 a2 a3) Zlj (0, 0, 0, 0, 0, 0) (fun r => ((SzL 8 (fun _ => True)) r) ∧ (r = tlV a0 a1 a2 a3))) := by
 obtain ⟨al0, al1, al2, al3, ov1, ob30000000, ob30000001, ob30000002, i0⟩ := h
 have lb_v1 := ov1.1
 subst al0
 subst al1
 subst al2
 subst al3
 dsimp only [Zf5, LT.den]
 refine tF (fun h1 => ?_) (fun h1 => ?_)
 ·refine tB (Ztz E1 E2.N ob30000001) (fun x2 h3 => ?_)
  have eh3_0 := h3
  refine tF (fun h4 => ?_) (fun h4 => ?_)
  ·refine tE (fun h5 => ?_) (fun h5 => ?_)
   ·have q6 : (SzL 8 (fun _ => True)) ([x2.1.Player] : (List Int)) := ⟨by simp only [List.length_cons, List.length_nil]; omega, fun _ _ => trivial⟩
    exact tR ⟨q6, Zrd⟩
   ·exact tJ (Zhw E0 v1 E1 E2 v1 E0 E2 x2.1 x2.2 ⟨rfl, rfl, rfl, ov1, ob30000000, ob30000002, (by grind)⟩)
  ·exact tJ (Zhw E0 v1 E1 E2 v1 E0 E2 x2.1 x2.2 ⟨rfl, rfl, rfl, ov1, ob30000000, ob30000002, (by grind)⟩)
 ·exact tR ⟨SzL.nil, Zrd⟩
theorem Z4o (a0 : Zb) (a1 : (List Zd)) (a2 : Zo) (a3 : Z4) (oa0 : Zp a0) (oa1 : (SzL 176 Zby) a1) (oa2 : Zeh a2) (oa3 : Zeq a3) : Tot (Zp5 a0 a1 a2 a3) (fun r => ((SzL 8 (fun _ => True)) r) ∧ (r = tlV a0 a1 a2 a3)) := by
 unfold Zp5
 refine tX (Inv := (Zfc a0 a1 a2 a3)) (μ := Zlj) (m := (1000000, 0, 0, 0, 0, 0)) ?_ ?_
 ·have lb_a1 := oa1.1
  have lq := oa0.1.1
  dsimp only [Zu2, LT.den]
  refine tE (fun h1 => ?_) (fun h1 => ?_)
  ·have q2 : (SzL 8 (fun _ => True)) ([a2.You] : (List Int)) := ⟨by simp only [List.length_cons, List.length_nil]; omega, fun _ _ => trivial⟩
   exact tR ⟨q2, Zrd⟩
  ·refine tE (fun h3 => ?_) (fun h3 => ?_)
   ·refine tB (Zty a0 a2.You oa0) (fun x4 h5 => ?_)
    have eh5_1 := h5.2.1
    have eh5_2 := h5.2.2
    exact tR ⟨h5.1, Zrd⟩
   ·refine tE (fun h6 => ?_) (fun h6 => ?_)
    ·have q7 : (SzL 8 (fun _ => True)) ([a2.You] : (List Int)) := ⟨by simp only [List.length_cons, List.length_nil]; omega, fun _ _ => trivial⟩
     refine tB (Zty a0 a2.You oa0) (fun x8 h9 => ?_)
     have eh9_1 := h9.2.1
     have eh9_2 := h9.2.2
     have q12 := q7.1
     have q13 := h9.1.1
     refine tB (tA tk48 (by decide)) (fun x10 h11 => ?_)
     have lh11 : x10.length = [a2.You].length + x8.length := by rw [h11, List.length_append]
     try simp only [List.length_cons, List.length_nil, Nat.zero_add] at lh11
     exact tR ⟨⟨lo, fun _ _ => trivial⟩, Zrd⟩
    ·refine tE (fun h14 => ?_) (fun h14 => ?_)
     ·exact tJ (Zhx a0 a1 a2 a3 a1 a0 a2 a3 (a3.Kind == 3) ⟨rfl, rfl, rfl, rfl, oa1, oa0, oa2, oa3, (by grind)⟩)
     ·exact tJ (Zhx a0 a1 a2 a3 a1 a0 a2 a3 (a3.Kind == 8) ⟨rfl, rfl, rfl, rfl, oa1, oa0, oa2, oa3, (by grind)⟩)
 ·intro s hs
  cases s with
  | L0 v1 E0 E1 E2 v36 => exact Zhx a0 a1 a2 a3 v1 E0 E1 E2 v36 hs
  | L1 v1 E0 E1 E2 v10 => exact Zhw a0 a1 a2 a3 v1 E0 E1 E2 v10 hs
theorem Zjs (a0 : Int) (a1 : Zb) (oa1 : Zp a1) : Tot (Zii a0 a1) (fun r => (r = !Zhu a1.Players a0)) := by
 unfold Zii
 refine tZ ?_
 dsimp only [Zly, LT.den]
 refine tD (fun h1 => ?_) (fun h1 => ?_)
 ·exact tR tk41
 ·have q2 := oa1.1.1
  refine tD (fun h3 => ?_) (fun h3 => ?_)
  ·exact tR tk41
  ·refine tB (tI (by omega) (by omega)) (fun x4 h5 => ?_)
   have oh5 : Zbx x4 := oa1.1.2 x4 h5.1
   have mh5 := h5.2
   exact tR tk41
def Zft (a0 : (List Int)) (a1 : Zb) : Zav → Prop
 | .L0 v0 w1_0 v7 v8 => (v0 = a0) ∧ (w1_0 = a1) ∧ ((SzL 8 (fun _ => True)) v0) ∧ (Zp w1_0) ∧ (0 ≤ v8) ∧ (v7 = (v0.length : Int)) ∧ (∀ (k : Nat) x, (k : Int) < v8 → v0[k]? = some x → Zhu w1_0.Players x = true)
def Zcz : Zav → M6
 | .L0 v0 w1_0 v7 v8 => (1, (v7 - v8).toNat, 1000000, 0, 0, 0)
theorem Zfu (a0 : (List Int)) (a1 : Zb) (oa0 : (SzL 8 (fun _ => True)) a0) (oa1 : Zp a1) : Tot (Zb2 a0 a1) (fun r => (FD a0 (Zhu a1.Players) r)) := by
 unfold Zb2
 refine tX (Inv := (Zft a0 a1)) (μ := Zcz) (m := (1000000, 0, 0, 0, 0, 0)) ?_ ?_
 ·have lb_a0 := oa0.1
  dsimp only [Zc3, LT.den]
  have q1 := oa0.1
  exact tL ⟨rfl, rfl, oa0, oa1, cl, cl, tk28⟩ tk46
 ·intro s hs
  cases s with
  | L0 v0 w1_0 v7 v8 =>
   obtain ⟨al0, al1, ov0, ow1_0, cv8, i0, i1⟩ := hs
   have lb_v0 := ov0.1
   subst al0
   subst al1
   show Tot (Zbn v0 w1_0 v7 v8).den _
   dsimp only [Zbn, LT.den]
   refine tD (fun h1 => ?_) (fun h1 => ?_)
   ·refine tB (tI (by omega) (by omega)) (fun x2 h3 => ?_)
    have mh3 := h3.2
    refine tB (Zjs x2 w1_0 ow1_0) (fun x4 h5 => ?_)
    have eh5_0 := h5
    refine tF (fun h6 => ?_) (fun h6 => ?_)
    ·exact tR tk24
    ·refine qw (v8 + 1) fun q7 q8 => ?_
     exact tL ⟨rfl, rfl, ov0, ow1_0, cl, cl, tk28⟩ tk46
   ·exact tR tk24
abbrev Zej (b0 : (List Int)) (a1 : Zb) (r : (List Int)) : Prop := ((SzL 8 (fun _ => True)) r) ∧ (r = b0.filter (Zhu a1.Players))
def Zer (b0 : (List Int)) (a1 : Zb) : Zam → Prop
 | .L0 v0 w1_0 v5 v6 => (w1_0 = a1) ∧ ((SzL 8 (fun _ => True)) v0) ∧ (Zp w1_0) ∧ (0 ≤ v6) ∧ (DI b0 v0 (Zhu w1_0.Players) v5 v6) ∧ (v6 ≤ (v0.length : Int))
def Zci : Zam → M6
 | .L0 v0 w1_0 v5 v6 => (1, ((v0.length : Int) - v6).toNat, 1000000, 0, 0, 0)
theorem Zes (b0 : (List Int)) (a1 : Zb) (ob0 : (SzL 8 (fun _ => True)) b0) (oa1 : Zp a1) : Tot (Zbc b0 a1) (Zej b0 a1) := by
 unfold Zbc
 refine tX (Inv := (Zer b0 a1)) (μ := Zci) (m := (1000000, 0, 0, 0, 0, 0)) ?_ ?_
 ·have lb_b0 := ob0.1
  dsimp only [Zck, LT.den]
  refine tB (Zfu b0 a1 ob0 oa1) (fun x1 h2 => ?_)
  have eh2_0 := h2
  have ph2 := Zaqd eh2_0
  refine tE (fun h3 => ?_) (fun h3 => ?_)
  ·exact tR ⟨ob0, tk14⟩
  ·refine qw (x1 + 1) fun q4 q5 => ?_
   exact tL ⟨rfl, ob0, oa1, cl, tk3, cl⟩ tk44
 ·intro s hs
  cases s with
  | L0 v0 w1_0 v5 v6 =>
   obtain ⟨al0, ov0, ow1_0, cv6, i0, i1⟩ := hs
   have lb_v0 := ov0.1
   subst al0
   show Tot (Za7 v0 w1_0 v5 v6).den _
   dsimp only [Za7, LT.den]
   have l0 := i0.1; have l1 := i0.2.1; have l2 := i0.2.2.1
   have q1 := ov0.1
   refine tD (fun h2 => ?_) (fun h2 => ?_)
   ·refine tB (tI (by omega) (by omega)) (fun x3 h4 => ?_)
    have mh4 := h4.2
    refine tB (Zjs x3 w1_0 ow1_0) (fun x5 h6 => ?_)
    have eh6_0 := h6
    refine tO (fun h7 => ?_) (fun h7 => ?_)
    ·refine tB (tI (by omega) (by omega)) (fun x8 h9 => ?_)
     have mh9 := h9.2
     refine tB (Tot.set (by omega) (by omega)) (fun x10 h11 => ?_)
     have lh11 := h11.1
     have vh11 := h11.2.2
     refine qw (v5 + 1) fun q12 q13 => ?_
     refine qw (v6 + 1) fun q14 q15 => ?_
     exact tL ⟨rfl, ⟨lo, fun _ _ => trivial⟩, ow1_0, cl, tk3, cl⟩ tk44
    ·refine qw (v6 + 1) fun q16 q17 => ?_
     exact tL ⟨rfl, ov0, ow1_0, cl, tk3, cl⟩ tk44
   ·refine tB (Tot.clr (by omega) (by omega)) (fun x18 h19 => ?_)
    have lh19 := h19.1
    have vh19 := h19.2.2
    have q22 : x18.length * 8 ≤ 140737488351232 := (show SzL 8 (fun _ => True) x18 from ⟨lo, fun _ _ => trivial⟩).1
    refine tB (Tot.slice (by omega) (by omega) (by omega)) (fun x20 h21 => ?_)
    have lh21 := h21.1
    have vh21 := h21.2.2
    exact tR ⟨⟨lo, fun _ _ => trivial⟩, tk14⟩
theorem Zd4 (a0 : Zb) (a1 : (List Zd)) (a2 : Zo) (a3 : Z4) (oa0 : Zp a0) (oa1 : (SzL 176 Zby) a1) (oa2 : Zeh a2) (oa3 : Zeq a3) : Tot (Zkw a0 a1 a2 a3) (fun r => ((SzL 8 (fun _ => True)) r) ∧ (r = plV a0 a1 a2 a3)) := by
 unfold Zkw
 refine tZ ?_
 have lb_a1 := oa1.1
 dsimp only [Zu4, LT.den]
 refine tB (Z4o a0 a1 a2 a3 oa0 oa1 oa2 oa3) (fun x1 h2 => ?_)
 have eh2_1 := h2.2
 refine tB (Zes x1 a0 h2.1 oa0) (fun x3 h4 => ?_)
 have eh4_1 := h4.2
 exact tR ⟨h4.1, (by unfold plV; grind)⟩
def Zak8 (a0 : (List Int)) (a1 : (List Int)) : Zm6 → Prop
 | .L0 v0 v1 v5 => (v0 = a0) ∧ (v1 = a1) ∧ ((SzL 8 (fun _ => True)) v0) ∧ ((SzL 8 (fun _ => True)) v1) ∧ (0 ≤ v5) ∧ (v0.length = v1.length) ∧ (∀ k : Nat, (k : Int) < v5 → v0[k]? = v1[k]?)
def Zw0 : Zm6 → M6
 | .L0 v0 v1 v5 => (1, ((v0.length : Int) - v5).toNat, 1000000, 0, 0, 0)
theorem Zhf (a0 : (List Int)) (a1 : (List Int)) (oa0 : (SzL 8 (fun _ => True)) a0) (oa1 : (SzL 8 (fun _ => True)) a1) : Tot (Z8h a0 a1) (fun r => (r = true ↔ a0 = a1)) := by
 unfold Z8h
 refine tX (Inv := (Zak8 a0 a1)) (μ := Zw0) (m := (1000000, 0, 0, 0, 0, 0)) ?_ ?_
 ·have lb_a0 := oa0.1
  have lb_a1 := oa1.1
  dsimp only [Zaby, LT.den]
  have q1 := oa0.1
  have q2 := oa1.1
  refine tN (fun h3 => ?_) (fun h3 => ?_)
  ·exact tR (by first | (refine ⟨fun _ => Z8o (by assumption) (by assumption) (by omega), fun _ => rfl⟩) | (refine ⟨fun h => absurd h (by decide), fun h => ?_⟩; exfalso; grind))
  ·exact tL ⟨rfl, rfl, oa0, oa1, cl, cl, tk21⟩ (by unfold Zw0 lt6; dsimp only; omega)
 ·intro s hs
  cases s with
  | L0 v0 v1 v5 =>
   obtain ⟨al0, al1, ov0, ov1, cv5, i0, i1⟩ := hs
   have lb_v0 := ov0.1
   have lb_v1 := ov1.1
   subst al0
   subst al1
   show Tot (Zwh v0 v1 v5).den _
   dsimp only [Zwh, LT.den]
   have q1 := ov0.1
   refine tD (fun h2 => ?_) (fun h2 => ?_)
   ·refine tB (tI (by omega) (by omega)) (fun x3 h4 => ?_)
    have mh4 := h4.2
    refine tB (tI (by omega) (by omega)) (fun x5 h6 => ?_)
    have mh6 := h6.2
    refine tN (fun h7 => ?_) (fun h7 => ?_)
    ·exact tR (by first | (refine ⟨fun _ => Z8o (by assumption) (by assumption) (by omega), fun _ => rfl⟩) | (refine ⟨fun h => absurd h (by decide), fun h => ?_⟩; exfalso; grind))
    ·refine qw (v5 + 1) fun q8 q9 => ?_
     exact tL ⟨rfl, rfl, ov0, ov1, cl, cl, tk21⟩ (by unfold Zw0 lt6; dsimp only; omega)
   ·exact tR (by first | (refine ⟨fun _ => Z8o (by assumption) (by assumption) (by omega), fun _ => rfl⟩) | (refine ⟨fun h => absurd h (by decide), fun h => ?_⟩; exfalso; grind))
theorem Zjt (a0 : Int) (a1 : Zb) (oa1 : Zp a1) : Tot (Zij a0 a1) (fun r => (r = !exB a1 a0)) := by
 unfold Zij
 refine tZ ?_
 dsimp only [Zl0, LT.den]
 refine tB (Z0o a1 a0 oa1) (fun x1 h2 => ?_)
 have eh2_0 := h2
 exact tR (by unfold exB; grind [Zav3])
def Zfv (a0 : (List Int)) (a1 : Zb) : Zaw → Prop
 | .L0 v0 w1_0 v7 v8 => (v0 = a0) ∧ (w1_0 = a1) ∧ ((SzL 8 (fun _ => True)) v0) ∧ (Zp w1_0) ∧ (0 ≤ v8) ∧ (v7 = (v0.length : Int)) ∧ (∀ (k : Nat) x, (k : Int) < v8 → v0[k]? = some x → exB w1_0 x = true)
def Zc0 : Zaw → M6
 | .L0 v0 w1_0 v7 v8 => (1, (v7 - v8).toNat, 1000000, 0, 0, 0)
theorem Zfw (a0 : (List Int)) (a1 : Zb) (oa0 : (SzL 8 (fun _ => True)) a0) (oa1 : Zp a1) : Tot (Zb3 a0 a1) (fun r => (FD a0 (exB a1) r)) := by
 unfold Zb3
 refine tX (Inv := (Zfv a0 a1)) (μ := Zc0) (m := (1000000, 0, 0, 0, 0, 0)) ?_ ?_
 ·have lb_a0 := oa0.1
  dsimp only [Zc5, LT.den]
  have q1 := oa0.1
  exact tL ⟨rfl, rfl, oa0, oa1, cl, cl, tk28⟩ tk47
 ·intro s hs
  cases s with
  | L0 v0 w1_0 v7 v8 =>
   obtain ⟨al0, al1, ov0, ow1_0, cv8, i0, i1⟩ := hs
   have lb_v0 := ov0.1
   subst al0
   subst al1
   show Tot (Zbo v0 w1_0 v7 v8).den _
   dsimp only [Zbo, LT.den]
   refine tD (fun h1 => ?_) (fun h1 => ?_)
   ·refine tB (tI (by omega) (by omega)) (fun x2 h3 => ?_)
    have mh3 := h3.2
    refine tB (Zjt x2 w1_0 ow1_0) (fun x4 h5 => ?_)
    have eh5_0 := h5
    refine tF (fun h6 => ?_) (fun h6 => ?_)
    ·exact tR tk24
    ·refine qw (v8 + 1) fun q7 q8 => ?_
     exact tL ⟨rfl, rfl, ov0, ow1_0, cl, cl, tk28⟩ tk47
   ·exact tR tk24
def Zet (b0 : (List Int)) (a1 : Zb) : Zan → Prop
 | .L0 v0 w1_0 v5 v6 => (w1_0 = a1) ∧ ((SzL 8 (fun _ => True)) v0) ∧ (Zp w1_0) ∧ (0 ≤ v6) ∧ (DI b0 v0 (exB w1_0) v5 v6) ∧ (v6 ≤ (v0.length : Int))
def Zcj : Zan → M6
 | .L0 v0 w1_0 v5 v6 => (1, ((v0.length : Int) - v6).toNat, 1000000, 0, 0, 0)
theorem Z0 (b0 : (List Int)) (a1 : Zb) (ob0 : (SzL 8 (fun _ => True)) b0) (oa1 : Zp a1) : Tot (Zbd b0 a1) (fun r => ((SzL 8 (fun _ => True)) r) ∧ (r = b0.filter (exB a1))) := by
 unfold Zbd
 refine tX (Inv := (Zet b0 a1)) (μ := Zcj) (m := (1000000, 0, 0, 0, 0, 0)) ?_ ?_
 ·have lb_b0 := ob0.1
  dsimp only [Zcm, LT.den]
  refine tB (Zfw b0 a1 ob0 oa1) (fun x1 h2 => ?_)
  have eh2_0 := h2
  have ph2 := Zaqd eh2_0
  refine tE (fun h3 => ?_) (fun h3 => ?_)
  ·exact tR ⟨ob0, tk14⟩
  ·refine qw (x1 + 1) fun q4 q5 => ?_
   exact tL ⟨rfl, ob0, oa1, cl, tk3, cl⟩ tk45
 ·intro s hs
  cases s with
  | L0 v0 w1_0 v5 v6 =>
   obtain ⟨al0, ov0, ow1_0, cv6, i0, i1⟩ := hs
   have lb_v0 := ov0.1
   subst al0
   show Tot (Za8 v0 w1_0 v5 v6).den _
   dsimp only [Za8, LT.den]
   have l0 := i0.1; have l1 := i0.2.1; have l2 := i0.2.2.1
   have q1 := ov0.1
   refine tD (fun h2 => ?_) (fun h2 => ?_)
   ·refine tB (tI (by omega) (by omega)) (fun x3 h4 => ?_)
    have mh4 := h4.2
    refine tB (Zjt x3 w1_0 ow1_0) (fun x5 h6 => ?_)
    have eh6_0 := h6
    refine tO (fun h7 => ?_) (fun h7 => ?_)
    ·refine tB (tI (by omega) (by omega)) (fun x8 h9 => ?_)
     have mh9 := h9.2
     refine tB (Tot.set (by omega) (by omega)) (fun x10 h11 => ?_)
     have lh11 := h11.1
     have vh11 := h11.2.2
     refine qw (v5 + 1) fun q12 q13 => ?_
     refine qw (v6 + 1) fun q14 q15 => ?_
     exact tL ⟨rfl, ⟨lo, fun _ _ => trivial⟩, ow1_0, cl, tk3, cl⟩ tk45
    ·refine qw (v6 + 1) fun q16 q17 => ?_
     exact tL ⟨rfl, ov0, ow1_0, cl, tk3, cl⟩ tk45
   ·refine tB (Tot.clr (by omega) (by omega)) (fun x18 h19 => ?_)
    have lh19 := h19.1
    have vh19 := h19.2.2
    have q22 : x18.length * 8 ≤ 140737488351232 := (show SzL 8 (fun _ => True) x18 from ⟨lo, fun _ _ => trivial⟩).1
    refine tB (Tot.slice (by omega) (by omega) (by omega)) (fun x20 h21 => ?_)
    have lh21 := h21.1
    have vh21 := h21.2.2
    exact tR ⟨⟨lo, fun _ _ => trivial⟩, tk14⟩
theorem Zq4 (a0 : Zb) (a1 : (List Zd)) (a2 : Zo) (a3 : Z4) (oa0 : Zp a0) (oa1 : (SzL 176 Zby) a1) (oa2 : Zeh a2) (oa3 : Zeq a3) : Tot (Zp6 a0 a1 a2 a3) (fun r => ((SzL 8 (fun _ => True)) r) ∧ (r = obV a0 a1 a2 a3)) := by
 unfold Zp6
 refine tZ ?_
 have lb_a1 := oa1.1
 dsimp only [Zu6, LT.den]
 refine tE (fun h1 => ?_) (fun h1 => ?_)
 ·have q2 : (SzL 8 (fun _ => True)) ([a2.Source] : (List Int)) := ⟨by simp only [List.length_cons, List.length_nil]; omega, fun _ _ => trivial⟩
  refine tB (Z0 [a2.Source] a0 q2 oa0) (fun x3 h4 => ?_)
  have eh4_1 := h4.2
  exact tR ⟨h4.1, Zzk⟩
 ·refine tE (fun h5 => ?_) (fun h5 => ?_)
  ·have q6 : (SzL 8 (fun _ => True)) ([a2.Event.Object] : (List Int)) := ⟨by simp only [List.length_cons, List.length_nil]; omega, fun _ _ => trivial⟩
   refine tB (Z0 [a2.Event.Object] a0 q6 oa0) (fun x7 h8 => ?_)
   have eh8_1 := h8.2
   exact tR ⟨h8.1, Zzk⟩
  ·refine tE (fun h9 => ?_) (fun h9 => ?_)
   ·refine tB (Zyd a0 a1 a2.You a2.Source a3.Filter oa0 oa1 oa3) (fun x10 h11 => ?_)
    have eh11_1 := h11.2
    refine tB (Z0 x10 a0 h11.1 oa0) (fun x12 h13 => ?_)
    have eh13_1 := h13.2
    exact tR ⟨h13.1, Zzk⟩
   ·refine tE (fun h14 => ?_) (fun h14 => ?_)
    ·refine tB (Ztz a2 a3.N oa2) (fun x15 h16 => ?_)
     have eh16_0 := h16
     refine tF (fun h17 => ?_) (fun h17 => ?_)
     ·refine tN (fun h18 => ?_) (fun h18 => ?_)
      ·have q19 : (SzL 8 (fun _ => True)) ([x15.1.Object] : (List Int)) := ⟨by simp only [List.length_cons, List.length_nil]; omega, fun _ _ => trivial⟩
       refine tB (Z0 [x15.1.Object] a0 q19 oa0) (fun x20 h21 => ?_)
       have eh21_1 := h21.2
       exact tR ⟨h21.1, Zzk⟩
      ·refine tB (Z0 ([] : (List Int)) a0 SzL.nil oa0) (fun x22 h23 => ?_)
       have eh23_1 := h23.2
       exact tR ⟨h23.1, Zzk⟩
     ·refine tB (Z0 ([] : (List Int)) a0 SzL.nil oa0) (fun x24 h25 => ?_)
      have eh25_1 := h25.2
      exact tR ⟨h25.1, Zzk⟩
    ·refine tB (Z0 ([] : (List Int)) a0 SzL.nil oa0) (fun x26 h27 => ?_)
     have eh27_1 := h27.2
     exact tR ⟨h27.1, Zzk⟩
abbrev alO (n : Int) : Zf := ⟨n, 0, 0, 0, 0, false, false, false, false, 0, ⟨0, 0, 0⟩, 0, -1, -1, false, 0, 0⟩
theorem Zk4 : Tot Z2s (fun r => r = true) := by
 unfold Z2s LF.run; dsimp only [Z6l, LT.den]
 rw [Option.bind_some, Zgu]
 show Tot (Zbu Zwj.step (.L0 (⟨[⟨7, 0, 0, ⟨0, 0, 0, 0, 0, 0⟩, false, false, [], [], []⟩, ⟨20, 0, 0, ⟨0, 0, 0, 0, 0, 0⟩, false, false, [], [4], []⟩], [], [], [], [], [], [], 0, 0, 0, false, 0, 0, 5, 0, 0, [], 0, 0⟩ : Zb) 1)) _
 rw [Zec (s' := .L0 (⟨[⟨7, 0, 0, ⟨0, 0, 0, 0, 0, 0⟩, false, false, [], [], []⟩, ⟨20, 0, 0, ⟨0, 0, 0, 0, 0, 0⟩, false, false, [], [4], []⟩], [alO 1], [1], [], [], [], [], 0, 0, 0, false, 0, 0, 5, 0, 0, [], 0, 0⟩ : Zb) 2) (by kernel_rfl), Zec (s' := .L0 (⟨[⟨7, 0, 0, ⟨0, 0, 0, 0, 0, 0⟩, false, false, [], [], []⟩, ⟨20, 0, 0, ⟨0, 0, 0, 0, 0, 0⟩, false, false, [], [4], []⟩], [alO 1, alO 2], [1, 2], [], [], [], [], 0, 0, 0, false, 0, 0, 5, 0, 0, [], 0, 0⟩ : Zb) 3) (by kernel_rfl), Zec (s' := .L0 (⟨[⟨7, 0, 0, ⟨0, 0, 0, 0, 0, 0⟩, false, false, [], [], []⟩, ⟨20, 0, 0, ⟨0, 0, 0, 0, 0, 0⟩, false, false, [], [4], []⟩], [alO 1, alO 2, alO 3], [1, 2, 3], [], [], [], [], 0, 0, 0, false, 0, 0, 5, 0, 0, [], 0, 0⟩ : Zb) 4) (by kernel_rfl)]
 have szS : Zp (⟨[⟨7, 0, 0, ⟨0, 0, 0, 0, 0, 0⟩, false, false, [], [], []⟩, ⟨20, 0, 0, ⟨0, 0, 0, 0, 0, 0⟩, false, false, [], [4], []⟩], [alO 1, alO 2, alO 3], [1, 2, 3], [], [], [], [], 0, 0, 0, false, 0, 0, 5, 0, 0, [], 0, 0⟩ : Zb) := by
  refine ⟨⟨by decide, fun x hx => ?_⟩, ⟨by decide, fun _ _ => trivial⟩, ⟨by decide, fun _ _ => trivial⟩, SzL.nil, SzL.nil, SzL.nil, SzL.nil, SzL.nil⟩
  rcases List.mem_cons.1 hx with rfl | hx
  ·exact ⟨SzL.nil, SzL.nil, SzL.nil⟩
  ·rcases List.mem_cons.1 hx with rfl | hx
   ·exact ⟨SzL.nil, ⟨by decide, fun _ _ => trivial⟩, SzL.nil⟩
   ·cases hx
 have szA : SzL 176 Zby [(⟨[], ⟨0, 0, ⟨0, 0, 0, 0, 0⟩⟩, 0, ⟨0, 1, []⟩, 4, 0, 0, [], 0⟩ : Zd), ⟨[], ⟨0, 0, ⟨0, 0, 0, 0, 0⟩⟩, 0, ⟨0, 1, []⟩, 4, 0, 0, [], 0⟩, ⟨[], ⟨0, 0, ⟨0, 0, 0, 0, 0⟩⟩, 0, ⟨0, 1, []⟩, 4, 0, 0, [], 0⟩] :=
  ⟨by decide, mem_cons' ⟨SzS.nil, SzL.nil, SzL.nil⟩ (mem_cons' ⟨SzS.nil, SzL.nil, SzL.nil⟩ (mem_cons' ⟨SzS.nil, SzL.nil, SzL.nil⟩ fun _ h => by cases h))⟩
 have szC : SzL 16 (fun _ => True) [(⟨0, 1⟩ : Zx), ⟨3, 0⟩] := ⟨by decide, fun _ _ => trivial⟩
 have szI : ∀ l : List Int, l.length ≤ 100 → SzL 8 (fun _ => True) l := fun l h => ⟨by omega, fun _ _ => trivial⟩
 refine Tot.last ?_
 show Tot (Ztb _ 4).den _
 dsimp only [Ztb, LT.den]
 rw [show decide ((4 : Int) ≤ 3) = false from rfl, cond_false]
 refine tB (Znk _ _ _ _ szS szA szC SzS.nil) (fun x h => ?_)
 subst h
 refine Tot.bt (by kernel_rfl) ?_
 refine tB (Znk _ _ _ _ szS szA szC SzS.nil) (fun x h => ?_)
 subst h
 refine Tot.bt (by kernel_rfl) ?_
 refine tB (Znk _ _ _ _ szS szA szC SzS.nil) (fun x h => ?_)
 subst h
 refine Tot.bt (by kernel_rfl) ?_
 refine tB (Znk _ _ _ _ szS szA szC SzS.nil) (fun x h => ?_)
 subst h
 refine Tot.bt (by kernel_rfl) ?_
 refine tB (Zd4 _ _ _ _ szS szA szC SzS.nil) (fun x h => ?_)
 obtain ⟨h1, h2⟩ := h
 refine tB (Zhf _ _ h1 (szI _ (by decide))) (fun y h => ?_)
 obtain rfl : y = true := h.2 Zag6
 refine Tot.bt rfl ?_
 refine tB (Zd4 _ _ _ _ szS szA szC SzS.nil) (fun x h => ?_)
 obtain ⟨h1, h2⟩ := h
 refine tB (Zhf _ _ h1 (szI _ (by decide))) (fun y h => ?_)
 obtain rfl : y = true := h.2 Zag6
 refine Tot.bt rfl ?_
 refine tB (Zq4 _ _ _ _ szS szA szC SzS.nil) (fun x h => ?_)
 obtain ⟨h1, h2⟩ := h
 refine tB (Zhf _ _ h1 (szI _ (by decide))) (fun y h => ?_)
 obtain rfl : y = true := h.2 Zag6
 refine Tot.bt rfl ?_
 refine tB (Zq4 _ _ _ _ szS szA szC SzS.nil) (fun x h => ?_)
 obtain ⟨h1, h2⟩ := h
 refine tB (Zhf _ _ h1 (szI _ (by decide))) (fun y h => ?_)
 obtain rfl : y = true := h.2 Zag6
 exact ⟨_, rfl, _, rfl, rfl⟩
def Zagq (a0 : (List Int)) (a1 : Int) : Zkp → Prop
 | .L0 v0 v1 v5 => (v0 = a0) ∧ (v1 = a1) ∧ ((SzL 8 (fun _ => True)) v0) ∧ (0 ≤ v5) ∧ (∀ (k : Nat) x, (k : Int) < v5 → v0[k]? = some x → x ≠ v1)
def Zt0 : Zkp → M6
 | .L0 v0 v1 v5 => (1, ((v0.length : Int) - v5).toNat, 1000000, 0, 0, 0)
theorem Zagr (a0 : (List Int)) (a1 : Int) (oa0 : (SzL 8 (fun _ => True)) a0) : Tot (Z2u a0 a1) (fun r => (0 ≤ r ↔ a1 ∈ a0)) := by
 unfold Z2u
 refine tX (Inv := (Zagq a0 a1)) (μ := Zt0) (m := (1000000, 0, 0, 0, 0, 0)) ?_ ?_
 ·have lb_a0 := oa0.1
  dsimp only [Z6o, LT.den]
  exact tL ⟨rfl, rfl, oa0, cl, tk25⟩ (by unfold Zt0 lt6; dsimp only; omega)
 ·intro s hs
  cases s with
  | L0 v0 v1 v5 =>
   obtain ⟨al0, al1, ov0, cv5, i0⟩ := hs
   have lb_v0 := ov0.1
   subst al0
   subst al1
   show Tot (Ztc v0 v1 v5).den _
   dsimp only [Ztc, LT.den]
   have q1 := ov0.1
   refine tD (fun h2 => ?_) (fun h2 => ?_)
   ·refine tB (tI (by omega) (by omega)) (fun x3 h4 => ?_)
    have mh4 := h4.2
    refine tE (fun h5 => ?_) (fun h5 => ?_)
    ·exact tR Zatv
    ·refine qw (v5 + 1) fun q6 q7 => ?_
     exact tL ⟨rfl, rfl, ov0, cl, tk25⟩ (by unfold Zt0 lt6; dsimp only; omega)
   ·exact tR Zatv
theorem Zamf (a0 : (List Int)) (a1 : Int) (oa0 : (SzL 8 (fun _ => True)) a0) : Tot (Zadh a0 a1) (fun r => (r = true ↔ a1 ∈ a0)) := by
 unfold Zadh
 refine tZ ?_
 have lb_a0 := oa0.1
 dsimp only [Zae5, LT.den]
 refine tB (Zagr a0 a1 oa0) (fun x1 h2 => ?_)
 have eh2_0 := h2
 exact tR (by grind)
end Go.PW
