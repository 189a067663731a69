import Derived.Test.YtnoofnejcoadfaaGreatDoorQX
set_option linter.all false
set_option maxRecDepth 100000
namespace Go.PW
def Za1l : Zwr → Prop
 | .L0 v0 E0 v5 => ((SzL 176 Zaf) v0) ∧ (Zq E0) ∧ (0 ≤ v5)
def Zabb : Zwr → M6
 | .L0 v0 E0 v5 => (1, ((E0.Extra.length : Int) - v5).toNat, 1000000, 0, 0, 0)
theorem Za1m (a0 : (List Zn)) (a1 : Zb) (oa0 : (SzL 176 Zaf) a0) (oa1 : Zq a1) : Tot (Zau9 a0 a1) (fun r => True) := by
 unfold Zau9
 refine tX (Inv := Za1l) (μ := Zabb) (m := (1000000, 0, 0, 0, 0, 0)) ?_ ?_
 ·have lb_a0 := oa0.1
  dsimp only [Zau7, LT.den]
  refine tB (Zdc a1.NextId 1 1000000) (fun x1 h2 => ?_)
  have eh2_0 := h2
  refine tO (fun h3 => ?_) (fun h3 => ?_)
  ·exact tR trivial
  ·refine tB (Zdc a1.NextStamp 1 1000000) (fun x4 h5 => ?_)
   have eh5_0 := h5
   refine tO (fun h6 => ?_) (fun h6 => ?_)
   ·exact tR trivial
   ·refine tB (Zdc a1.Turn 0 500) (fun x7 h8 => ?_)
    have eh8_0 := h8
    refine tO (fun h9 => ?_) (fun h9 => ?_)
    ·exact tR trivial
    ·refine tB (Zdc a1.Step 0 10) (fun x10 h11 => ?_)
     have eh11_0 := h11
     refine tO (fun h12 => ?_) (fun h12 => ?_)
     ·exact tR trivial
     ·have q13 := oa1.2.1.1
      refine tD (fun h14 => ?_) (fun h14 => ?_)
      ·exact tR trivial
      ·refine tB (Zaln a1 oa1) (fun x15 h16 => ?_)
       refine tO (fun h17 => ?_) (fun h17 => ?_)
       ·exact tR trivial
       ·refine tB (Zds a1 a1.Active oa1) (fun x18 h19 => ?_)
        have eh19_0 := h19
        refine tO (fun h20 => ?_) (fun h20 => ?_)
        ·exact tR trivial
        ·refine tB (Zds a1 a1.Priority oa1) (fun x21 h22 => ?_)
         have eh22_0 := h22
         refine tO (fun h23 => ?_) (fun h23 => ?_)
         ·exact tR trivial
         ·have q24 := oa1.1.1
          refine tB (Zdc a1.Passes 0 (a1.Players.length : Int)) (fun x25 h26 => ?_)
          have eh26_0 := h26
          refine tO (fun h27 => ?_) (fun h27 => ?_)
          ·exact tR trivial
          ·have q28 := oa1.2.2.2.2.2.2.2.1
           refine tD (fun h29 => ?_) (fun h29 => ?_)
           ·exact tR trivial
           ·refine tB (Zdc a1.Over 0 2) (fun x30 h31 => ?_)
            have eh31_0 := h31
            refine tO (fun h32 => ?_) (fun h32 => ?_)
            ·exact tR trivial
            ·exact tL ⟨oa0, oa1, cl⟩ (by unfold Zabb lt6; dsimp only; omega)
 ·intro s hs
  cases s with
  | L0 v0 E0 v5 =>
   obtain ⟨ov0, O0, cv5⟩ := hs
   have lb_v0 := ov0.1
   show Tot (Z86 v0 E0 v5).den _
   dsimp only [Z86, LT.den]
   have q1 := O0.2.2.2.2.2.2.2.1
   refine tD (fun h2 => ?_) (fun h2 => ?_)
   ·refine tB (tI (by omega) (by omega)) (fun x3 h4 => ?_)
    refine tB (Zds E0 x3 O0) (fun x5 h6 => ?_)
    have eh6_0 := h6
    refine tO (fun h7 => ?_) (fun h7 => ?_)
    ·exact tR trivial
    ·refine qw (v5 + 1) fun q8 q9 => ?_
     exact tL ⟨ov0, O0, cl⟩ (by unfold Zabb lt6; dsimp only; omega)
   ·refine tE (fun h10 => ?_) (fun h10 => ?_)
    ·refine tB (Zds E0 E0.Winner O0) (fun x11 h12 => ?_)
     have eh12_0 := h12
     refine tO (fun h13 => ?_) (fun h13 => ?_)
     ·exact tR trivial
     ·refine tN (fun h14 => ?_) (fun h14 => ?_)
      ·refine tN (fun h15 => ?_) (fun h15 => ?_)
       ·exact tR trivial
       ·refine tB (Zj1 v0 E0 ov0 O0) (fun x16 h17 => ?_)
        refine tF (fun h18 => ?_) (fun h18 => ?_)
        ·refine tB (Zm0 E0 O0) (fun x19 h20 => ?_)
         exact tR trivial
        ·exact tR trivial
      ·refine tB (Zj1 v0 E0 ov0 O0) (fun x21 h22 => ?_)
       refine tF (fun h23 => ?_) (fun h23 => ?_)
       ·refine tB (Zm0 E0 O0) (fun x24 h25 => ?_)
        exact tR trivial
       ·exact tR trivial
    ·refine tN (fun h26 => ?_) (fun h26 => ?_)
     ·refine tN (fun h27 => ?_) (fun h27 => ?_)
      ·exact tR trivial
      ·refine tB (Zj1 v0 E0 ov0 O0) (fun x28 h29 => ?_)
       refine tF (fun h30 => ?_) (fun h30 => ?_)
       ·refine tB (Zm0 E0 O0) (fun x31 h32 => ?_)
        exact tR trivial
       ·exact tR trivial
     ·refine tB (Zj1 v0 E0 ov0 O0) (fun x33 h34 => ?_)
      refine tF (fun h35 => ?_) (fun h35 => ?_)
      ·refine tB (Zm0 E0 O0) (fun x36 h37 => ?_)
       exact tR trivial
      ·exact tR trivial
abbrev Zan8 (a0 : (List Zn)) (a1 : Zb) (r : Bool) : Prop := (r = true → a1.Objects.length ≤ 60 ∧ a1.Conts.length ≤ 8 ∧ a1.Players.length ≤ 4 ∧ ∀ c, c ∈ a0 → c.Abilities.length ≤ 8)
def Zarb (a0 : (List Zn)) (a1 : Zb) : Zl7 → Prop
 | .L0 v0 E0 v5 => (v0 = a0) ∧ (E0 = a1) ∧ ((SzL 176 Zaf) v0) ∧ (Zq E0) ∧ (0 ≤ v5) ∧ (E0.Objects.length ≤ 60) ∧ (E0.Conts.length ≤ 8) ∧ (E0.Players.length ≤ 4)
def Zx5 : Zl7 → M6
 | .L0 v0 E0 v5 => (1, ((E0.Players.length : Int) - v5).toNat, 1000000, 0, 0, 0)
theorem Zarc (a0 : (List Zn)) (a1 : Zb) (oa0 : (SzL 176 Zaf) a0) (oa1 : Zq a1) : Tot (Z87 a0 a1) (Zan8 a0 a1) := by
 unfold Z87
 refine tX (Inv := (Zarb a0 a1)) (μ := Zx5) (m := (1000000, 0, 0, 0, 0, 0)) ?_ ?_
 ·have lb_a0 := oa0.1
  dsimp only [Zado, LT.den]
  have q1 := oa0.1
  refine tD (fun h2 => ?_) (fun h2 => ?_)
  ·exact tR Zt3
  ·have q3 := oa1.1.1
   refine tD (fun h4 => ?_) (fun h4 => ?_)
   ·exact tR Zt3
   ·have q5 := oa1.2.1.1
    refine tD (fun h6 => ?_) (fun h6 => ?_)
    ·exact tR Zt3
    ·have q7 := oa1.2.2.1.1
     refine tD (fun h8 => ?_) (fun h8 => ?_)
     ·exact tR Zt3
     ·have q9 := oa1.2.2.2.1.1
      refine tD (fun h10 => ?_) (fun h10 => ?_)
      ·exact tR Zt3
      ·have q11 := oa1.2.2.2.2.1.1
       refine tD (fun h12 => ?_) (fun h12 => ?_)
       ·exact tR Zt3
       ·have q13 := oa1.2.2.2.2.2.1.1
        refine tD (fun h14 => ?_) (fun h14 => ?_)
        ·exact tR Zt3
        ·have q15 := oa1.2.2.2.2.2.2.1.1
         refine tD (fun h16 => ?_) (fun h16 => ?_)
         ·exact tR Zt3
         ·have q17 := oa1.2.2.2.2.2.2.2.1
          refine tD (fun h18 => ?_) (fun h18 => ?_)
          ·exact tR Zt3
          ·exact tL ⟨rfl, rfl, oa0, oa1, cl, cl, cl, cl⟩ (by unfold Zx5 lt6; dsimp only; omega)
 ·intro s hs
  cases s with
  | L0 v0 E0 v5 =>
   obtain ⟨al0, al1, ov0, O0, cv5, i0, i1, i2⟩ := hs
   have lb_v0 := ov0.1
   subst al0
   subst al1
   show Tot (Zws v0 E0 v5).den _
   dsimp only [Zws, LT.den]
   have q1 := O0.1.1
   refine tD (fun h2 => ?_) (fun h2 => ?_)
   ·refine tB (tI (by omega) (by omega)) (fun x3 h4 => ?_)
    have oh4 : Zbv x3 := O0.1.2 x3 h4.1
    have q5 := oh4.1.1
    have q6 := oh4.2.1.1
    refine qw ((x3.Library.length : Int) + (x3.Hand.length : Int)) fun q7 q8 => ?_
    have q9 := oh4.2.2.1
    refine qw ((IntKind.wrap .i64 ((x3.Library.length : Int) + (x3.Hand.length : Int))) + (x3.Graveyard.length : Int)) fun q10 q11 => ?_
    refine tD (fun h12 => ?_) (fun h12 => ?_)
    ·exact tR Zt3
    ·refine qw (v5 + 1) fun q13 q14 => ?_
     exact tL ⟨rfl, rfl, ov0, O0, cl, cl, cl, cl⟩ (by unfold Zx5 lt6; dsimp only; omega)
   ·refine tB (Zaq3 v0 ov0) (fun x15 h16 => ?_)
    have eh16_0 := h16
    refine tE (fun h17 => ?_) (fun h17 => ?_)
    ·refine tB (Za1m v0 E0 ov0 O0) (fun x18 h19 => ?_)
     exact tR Zt3
    ·exact tR Zt3
theorem Zalp (a0 : Z3) (oa0 : Zea a0) : Tot (Z0z a0) (fun r => (Zea r) ∧ (r = usV a0)) := by
 unfold Z0z
 refine tZ ?_
 dsimp only [Z55, LT.den]
 refine tE (fun h1 => ?_) (fun h1 => ?_)
 ·exact tR ⟨(SzS.nil), (by unfold usV; grind)⟩
 ·refine tE (fun h2 => ?_) (fun h2 => ?_)
  ·exact tR ⟨oa0, (by unfold usV; grind)⟩
  ·refine tE (fun h3 => ?_) (fun h3 => ?_)
   ·exact tR ⟨oa0, (by unfold usV; grind)⟩
   ·exact tR ⟨oa0, (by unfold usV; grind)⟩
theorem Zard (a0 : Ze) (oa0 : Zak a0) : Tot (Zzd a0) (fun r => r = filV a0) := ⟨_, Zaap a0, rfl⟩
theorem Zag7 (a0 : Int) : Tot (Zwy a0) (fun r => (r = [] ↔ ¬ (0 ≤ a0 ∧ a0 ≤ 2))) := by
 unfold Zwy
 refine tZ ?_
 dsimp only [Z2p, LT.den]
 refine tD (fun h1 => ?_) (fun h1 => ?_)
 ·exact tR tk15
 ·refine tD (fun h2 => ?_) (fun h2 => ?_)
  ·exact tR tk15
  ·refine tB (tI (by omega) (by have e : (A3.list (⟨[112, 108, 117, 115], [109, 105, 110, 117, 115], [99, 104, 97, 114, 103, 101]⟩ : A3 (List UInt8))).length = 3 := rfl; omega)) (fun x3 h4 => ?_)
   have mh4 := h4.1
   exact tR tk15
theorem Zare (a0 : Z3) (oa0 : Zea a0) : Tot (Z9b a0) (fun r => (r = amV a0)) := by
 unfold Z9b
 refine tZ ?_
 dsimp only [Zadr, LT.den]
 refine tD (fun h1 => ?_) (fun h1 => ?_)
 ·exact tR Ze0
 ·refine tD (fun h2 => ?_) (fun h2 => ?_)
  ·exact tR Ze0
  ·refine tB (Zalp a0 oa0) (fun x3 h4 => ?_)
   have eh4_1 := h4.2
   refine tO (fun h5 => ?_) (fun h5 => ?_)
   ·exact tR Ze0
   ·refine tE (fun h6 => ?_) (fun h6 => ?_)
    ·refine tD (fun h7 => ?_) (fun h7 => ?_)
     ·exact tR Ze0
     ·exact tR Ze0
    ·refine tE (fun h8 => ?_) (fun h8 => ?_)
     ·refine tD (fun h9 => ?_) (fun h9 => ?_)
      ·refine tD (fun h10 => ?_) (fun h10 => ?_)
       ·refine tB (Zard a0.Filter oa0) (fun x11 h12 => ?_)
        have eh12_0 := h12
        exact tR Ze0
       ·exact tR Ze0
      ·exact tR Ze0
     ·refine tE (fun h13 => ?_) (fun h13 => ?_)
      ·refine tB (Zag7 a0.Counter) (fun x14 h15 => ?_)
       have eh15_0 := h15
       exact tR Ze0
      ·exact tR Ze0
theorem Zm1 (a0 : Int) : Tot (Zsy a0) (fun r => (r = clV a0)) := by
 unfold Zsy
 refine tZ ?_
 dsimp only [Z01, LT.den]
 exact tR (by rfl)
theorem Zax8 (a0 : Int) (a1 : Int) : Tot (Z2s a0 a1) (fun r => (r = muV a0 a1)) := by
 unfold Z2s
 refine tZ ?_
 dsimp only [Z9e, LT.den]
 refine tB (Zm1 a0) (fun x1 h2 => ?_)
 have eh2_0 := h2
 refine tB (Zm1 a1) (fun x3 h4 => ?_)
 have eh4_0 := h4
 refine qw (x1 * x3) fun q5 q6 => ?_
 refine tB (Zm1 (IntKind.wrap .i64 (x1 * x3))) (fun x7 h8 => ?_)
 have eh8_0 := h8
 exact tR (by unfold muV; grind)
theorem Zay3 {x : Za} (h : Zv x) : x.Line.Subs.length ≤ 4611686018427387904 := by
 have : x.Line.Subs.length * 16 ≤ 140737488351232 := h.2.1.1
 omega
theorem Zawr {s : Zb} {all : List Za} {you src : Int} {f : Ze} (h : Zq s) : SzL 8 (fun _ => True) (Zzp s all you src f) := by
 have h1 : s.Objects.length * 128 ≤ 140737488351232 := h.2.1.1
 have h2 : (Zzp s all you src f).length ≤ s.Objects.length := Zatd ..
 exact ⟨by omega, fun _ _ => trivial⟩
theorem Z3k (a0 : Zb) (a1 : List Za) (a2 a3 : Int) (a4 : Ze) (oa0 : Zq a0) (oa1 : (SzL 176 Zv) a1) (oa4 : Zak a4) : Tot (Zo4 a0 a1 a2 a3 a4) (fun r => ((SzL 8 (fun _ => True)) r) ∧ (r = Zzp a0 a1 a2 a3 a4)) :=
 ⟨_, Za66 a0 a1 a2 a3 a4 oa0.2.1.1 fun t ht => Zay3 (oa1.2 t ht), Zawr oa0, rfl⟩
theorem Zyj (a0 : Zg) (b0 : Int) : Tot (Zju a0 b0) (fun r => (r = (a0.Id == b0))) := by
 unfold Zju
 refine tZ ?_
 dsimp only [Znw, LT.den]
 exact tR (by rfl)
def Zel (a0 : (List Zg)) (b0 : Int) : Zav → Prop
 | .L0 v0 c0 v7 v8 => (v0 = a0) ∧ (c0 = b0) ∧ ((SzL 128 (fun _ => True)) v0) ∧ (0 ≤ v8) ∧ (v7 = (v0.length : Int)) ∧ (Z48 v0 c0 v8)
def Zce : Zav → M6
 | .L0 v0 c0 v7 v8 => (1, (v7 - v8).toNat, 1000000, 0, 0, 0)
theorem Zem (a0 : (List Zg)) (b0 : Int) (oa0 : (SzL 128 (fun _ => True)) a0) : Tot (Zbf a0 b0) (fun r => (r.1 = ixO a0 b0)) := by
 unfold Zbf
 refine tX (Inv := (Zel a0 b0)) (μ := Zce) (m := (1000000, 0, 0, 0, 0, 0)) ?_ ?_
 ·have lb_a0 := oa0.1
  dsimp only [Zcf, LT.den]
  have q1 := oa0.1
  exact tL ⟨rfl, rfl, oa0, cl, cl, tk22⟩ tk39
 ·intro s hs
  cases s with
  | L0 v0 c0 v7 v8 =>
   obtain ⟨al0, al1, ov0, cv8, i0, i1⟩ := hs
   have lb_v0 := ov0.1
   subst al0
   subst al1
   show Tot (Zbc v0 c0 v7 v8).den _
   dsimp only [Zbc, LT.den]
   refine tD (fun h1 => ?_) (fun h1 => ?_)
   ·refine tB (tI (by omega) (by omega)) (fun x2 h3 => ?_)
    have mh3 := h3.2
    refine tB (Zyj x2 c0) (fun x4 h5 => ?_)
    have eh5_0 := h5
    refine tF (fun h6 => ?_) (fun h6 => ?_)
    ·exact tR tk16
    ·refine qw (v8 + 1) fun q7 q8 => ?_
     exact tL ⟨rfl, rfl, ov0, cl, cl, tk22⟩ tk39
   ·exact tR tk16
theorem Zx6 (a0 : Zb) (a1 : (List Za)) (a2 : Int) (oa0 : Zq a0) (oa1 : (SzL 176 Zv) a1) : Tot (Zw4 a0 a1 a2) (fun r => (Zv r.1) ∧ (r = (trV a1 (ixO a0.Objects a2), decide (0 ≤ ixO a0.Objects a2)))) := by
 unfold Zw4
 refine tZ ?_
 have lb_a1 := oa1.1
 dsimp only [Z2v, LT.den]
 refine tB (Zem a0.Objects a2 oa0.2.1) (fun x1 h2 => ?_)
 have eh2_0 := h2
 have lh2 := Zale a0.Objects a2
 refine tD (fun h3 => ?_) (fun h3 => ?_)
 ·exact tR ⟨⟨(SzS.nil), SzL.nil, SzL.nil⟩, tk12⟩
 ·have q4 := oa1.1
  refine tD (fun h5 => ?_) (fun h5 => ?_)
  ·exact tR ⟨⟨(SzS.nil), SzL.nil, SzL.nil⟩, tk12⟩
  ·refine tB (tI (by omega) (by omega)) (fun x6 h7 => ?_)
   have oh7 : Zv x6 := oa1.2 x6 h7.1
   have mh7 := h7.2
   exact tR ⟨oh7, tk12⟩
theorem Z3l (a0 : Zg) (b0 : Int) : Tot (Zlf a0 b0) (fun r => (r = (a0.Id == b0))) := by
 unfold Zlf
 refine tZ ?_
 dsimp only [Zp3, LT.den]
 exact tR (by rfl)
def Zew (a0 : (List Zg)) (b0 : Int) : Zax → Prop
 | .L0 v0 c0 v7 v8 => (v0 = a0) ∧ (c0 = b0) ∧ ((SzL 128 (fun _ => True)) v0) ∧ (0 ≤ v8) ∧ (v7 = (v0.length : Int)) ∧ (Z48 v0 c0 v8)
def Zcm : Zax → M6
 | .L0 v0 c0 v7 v8 => (1, (v7 - v8).toNat, 1000000, 0, 0, 0)
theorem Zex (a0 : (List Zg)) (b0 : Int) (oa0 : (SzL 128 (fun _ => True)) a0) : Tot (Zbi a0 b0) (fun r => (r.1 = ixO a0 b0)) := by
 unfold Zbi
 refine tX (Inv := (Zew a0 b0)) (μ := Zcm) (m := (1000000, 0, 0, 0, 0, 0)) ?_ ?_
 ·have lb_a0 := oa0.1
  dsimp only [Zcp, LT.den]
  have q1 := oa0.1
  exact tL ⟨rfl, rfl, oa0, cl, cl, tk22⟩ tk42
 ·intro s hs
  cases s with
  | L0 v0 c0 v7 v8 =>
   obtain ⟨al0, al1, ov0, cv8, i0, i1⟩ := hs
   have lb_v0 := ov0.1
   subst al0
   subst al1
   show Tot (Zbe v0 c0 v7 v8).den _
   dsimp only [Zbe, LT.den]
   refine tD (fun h1 => ?_) (fun h1 => ?_)
   ·refine tB (tI (by omega) (by omega)) (fun x2 h3 => ?_)
    have mh3 := h3.2
    refine tB (Z3l x2 c0) (fun x4 h5 => ?_)
    have eh5_0 := h5
    refine tF (fun h6 => ?_) (fun h6 => ?_)
    ·exact tR tk16
    ·refine qw (v8 + 1) fun q7 q8 => ?_
     exact tL ⟨rfl, rfl, ov0, cl, cl, tk22⟩ tk42
   ·exact tR tk16
theorem Zan9 (a0 : Zb) (a1 : Int) (oa0 : Zq a0) : Tot (Z4r a0 a1) (fun r => (r = ixO a0.Objects a1)) := by
 unfold Z4r
 refine tZ ?_
 dsimp only [Z9h, LT.den]
 refine tB (Zex a0.Objects a1 oa0.2.1) (fun x1 h2 => ?_)
 have eh2_0 := h2
 exact tR (by assumption)
theorem Z63 (a0 : Zb) (a1 : Int) (oa0 : Zq a0) : Tot (Z9j a0 a1) (fun r => (r = fdV a0.Objects a1)) := by
 unfold Z9j
 refine tZ ?_
 dsimp only [Zadx, LT.den]
 refine tB (Zan9 a0 a1 oa0) (fun x1 h2 => ?_)
 have eh2_0 := h2
 have lh2 := Zale a0.Objects a1
 refine tD (fun h3 => ?_) (fun h3 => ?_)
 ·exact tR tk27
 ·refine tB (tI (by omega) (by omega)) (fun x4 h5 => ?_)
  have mh5 := h5.2
  exact tR tk27
theorem Zarf (a0 : Zb) (a1 : (List Za)) (a2 : Zy) (a3 : Z3) (oa0 : Zq a0) (oa1 : (SzL 176 Zv) a1) (oa2 : Zcv a2) (oa3 : Zea a3) (h0 : amV a3 = true) (h1 : a3.Kind = 4 → 0 ≤ a3.Counter ∧ a3.Counter ≤ 2) : Tot (Z9l a0 a1 a2 a3) (fun r => (r = raV a0 a1 a2 a3)) := by
 unfold Z9l
 refine tZ ?_
 have lb_a1 := oa1.1
 dsimp only [Zadz, LT.den]
 refine tE (fun h1 => ?_) (fun h1 => ?_)
 ·exact tR Zrt
 ·refine tE (fun h2 => ?_) (fun h2 => ?_)
  ·exact tR Zrt
  ·refine tE (fun h3 => ?_) (fun h3 => ?_)
   ·exact tR Zrt
   ·refine tE (fun h4 => ?_) (fun h4 => ?_)
    ·refine tB (Z3k a0 a1 a2.You a2.Source a3.Filter oa0 oa1 oa3) (fun x5 h6 => ?_)
     have eh6_1 := h6.2
     have q7 := h6.1.1
     refine tB (Zax8 a3.N (x5.length : Int)) (fun x8 h9 => ?_)
     have eh9_0 := h9
     exact tR Zrt
    ·refine tE (fun h10 => ?_) (fun h10 => ?_)
     ·refine tB (Zx6 a0 a1 a2.Source oa0 oa1) (fun x11 h12 => ?_)
      have eh12_1 := h12.2
      exact tR Zrt
     ·refine tE (fun h13 => ?_) (fun h13 => ?_)
      ·refine tB (Z63 a0 a2.Source oa0) (fun x14 h15 => ?_)
       have eh15_0 := h15
       refine tB (tI (by omega) (by have e : (A3.list x14.1.Counters).length = 3 := rfl; omega)) (fun x16 h17 => ?_)
       have mh17 := h17.2
       exact tR Zrt
      ·refine tD (fun h18 => ?_) (fun h18 => ?_)
       ·exact tR Zrt
       ·have q19 := oa0.1.1
        refine tD (fun h20 => ?_) (fun h20 => ?_)
        ·exact tR Zrt
        ·refine tE (fun h21 => ?_) (fun h21 => ?_)
         ·refine tB (tI (by omega) (by omega)) (fun x22 h23 => ?_)
          have oh23 : Zbv x22 := oa0.1.2 x22 h23.1
          have mh23 := h23.2
          exact tR Zrt
         ·refine tB (tI (by omega) (by omega)) (fun x24 h25 => ?_)
          have oh25 : Zbv x24 := oa0.1.2 x24 h25.1
          have mh25 := h25.2
          have q26 := oh25.2.1.1
          exact tR Zrt
theorem Zpw (a0 : Zb) (a1 : (List Za)) (a2 : Zy) (a3 : Z3) (oa0 : Zq a0) (oa1 : (SzL 176 Zv) a1) (oa2 : Zcv a2) (oa3 : Zea a3) : Tot (Zagh a0 a1 a2 a3) (fun r => (r = ofV a0 a1 a2 a3)) := by
 unfold Zagh
 refine tZ ?_
 have lb_a1 := oa1.1
 dsimp only [Zakj, LT.den]
 refine tB (Zare a3 oa3) (fun x1 h2 => ?_)
 have eh2_0 := h2
 refine tO (fun h3 => ?_) (fun h3 => ?_)
 ·exact tR (by unfold ofV; grind)
 ·refine tB (Zarf a0 a1 a2 a3 oa0 oa1 oa2 oa3 (by grind) (by exact Za85 (by grind))) (fun x4 h5 => ?_)
  have eh5_0 := h5
  refine tB (Zm1 x4) (fun x6 h7 => ?_)
  have eh7_0 := h7
  exact tR (by unfold ofV; grind)
abbrev Zacd (a0 : Zb) (r : (List Int)) : Prop := ((SzL 8 (fun _ => True)) r) ∧ (r.length ≤ a0.Players.length) ∧ (r = Zdq a0.Players)
def Zag8 (a0 : Zb) : Zh6 → Prop
 | .L0 v3 v7 v8 v9 => ((SzL 8 (fun _ => True)) v3) ∧ ((SzL 152 Zbv) v7) ∧ (0 ≤ v9) ∧ (v8 = (v7.length : Int)) ∧ (v8 = (a0.Players.length : Int)) ∧ (v7 = a0.Players) ∧ (v3 = Zq5 v7 v9) ∧ (v3.length ≤ v9.toNat) ∧ (v9 ≤ v8)
def Zzw : Zh6 → M6
 | .L0 v3 v7 v8 v9 => (1, (v8 - v9).toNat, 1000000, 0, 0, 0)
theorem Zag9 (a0 : Zb) (oa0 : Zq a0) : Tot (Zo6 a0) (Zacd a0) := by
 unfold Zo6
 refine tX (Inv := (Zag8 a0)) (μ := Zzw) (m := (1000000, 0, 0, 0, 0, 0)) ?_ ?_
 ·dsimp only [Z2y, LT.den]
  have q1 := oa0.1.1
  exact tL ⟨SzL.nil, oa0.1, cl, cl, cl, (by first | rfl | assumption), tk5, cl, cl⟩ tk61
 ·intro s hs
  cases s with
  | L0 v3 v7 v8 v9 =>
   obtain ⟨ov3, ov7, cv9, i0, i1, i2, i3, i4, i5⟩ := hs
   have lb_v3 := ov3.1
   have lb_v7 := ov7.1
   show Tot (Zo5 v3 v7 v8 v9).den _
   dsimp only [Zo5, LT.den]
   refine tD (fun h1 => ?_) (fun h1 => ?_)
   ·refine tB (tI (by omega) (by omega)) (fun x2 h3 => ?_)
    have oh3 : Zbv x2 := ov7.2 x2 h3.1
    have mh3 := h3.2
    refine tO (fun h4 => ?_) (fun h4 => ?_)
    ·have q5 : (SzL 8 (fun _ => True)) ([v9] : (List Int)) := ⟨by simp only [List.length_cons, List.length_nil]; omega, fun _ _ => trivial⟩
     have q8 := ov3.1
     refine tB (tA Zc5 (by decide)) (fun x6 h7 => ?_)
     have lh7 : x6.length = v3.length + 1 := by rw [h7, List.length_append]; rfl
     refine qw (v9 + 1) fun q9 q10 => ?_
     exact tL ⟨⟨lo, fun _ _ => trivial⟩, ov7, cl, cl, cl, (by first | rfl | assumption), tk5, cl, cl⟩ tk61
    ·refine qw (v9 + 1) fun q11 q12 => ?_
     exact tL ⟨ov3, ov7, cl, cl, cl, (by first | rfl | assumption), tk5, cl, cl⟩ tk61
   ·exact tR ⟨ov3, cl, (by rw [← ‹v7 = a0.Players›]; exact Zavw (by assumption) (by omega) (by omega))⟩
theorem Zs9 (a0 : Int) : Tot (Zqm a0) (fun r => (r = false)) := by
 unfold Zqm
 refine tZ ?_
 dsimp only [Zw5, LT.den]
 exact tR (by simp)
theorem Z5m (a0 : Int) (a1 : Int) : Tot (Znd a0 a1) (fun r => ((r = -1 ∧ a0 < a1) ∨ (r = 1 ∧ a1 < a0) ∨ (r = 0 ∧ a0 = a1))) := by
 unfold Znd
 refine tZ ?_
 dsimp only [Zsz, LT.den]
 refine tB (Zs9 a0) (fun x1 h2 => ?_)
 have eh2_0 := h2
 refine tB (Zs9 a1) (fun x3 h4 => ?_)
 have eh4_0 := h4
 refine tF (fun h5 => ?_) (fun h5 => ?_)
 ·refine tF (fun h6 => ?_) (fun h6 => ?_)
  ·exact tR Ziw
  ·exact tR Ziw
 ·refine tF (fun h7 => ?_) (fun h7 => ?_)
  ·exact tR Ziw
  ·refine tD (fun h8 => ?_) (fun h8 => ?_)
   ·exact tR Ziw
   ·refine tD (fun h9 => ?_) (fun h9 => ?_)
    ·exact tR Ziw
    ·exact tR Ziw
abbrev Zuz (a0 : Zb) (a1 : Int) (r : (List Int)) : Prop := ((SzL 8 (fun _ => True)) r) ∧ (r.length ≤ 2 * a0.Players.length) ∧ (r = Z5a a0.Players a1)
def Zni (a0 : Zb) (a1 : Int) : Zgf → Prop
 | .L0 v1 E0 => (E0 = a0) ∧ (Zq E0) ∧ ((v1 = -1 ∧ (a1 < 0 ∨ a1 ≥ (E0.Players.length : Int))) ∨ (v1 = a1 ∧ 0 ≤ a1 ∧ a1 < (E0.Players.length : Int)))
 | .L1 v1 v5 v6 v19 v20 v21 => ((SzL 8 (fun _ => True)) v5) ∧ ((SzL 8 (fun _ => True)) v6) ∧ ((SzL 8 (fun _ => True)) v19) ∧ (0 ≤ v21) ∧ ((v1 = -1 ∧ (a1 < 0 ∨ a1 ≥ (a0.Players.length : Int))) ∨ (v1 = a1 ∧ 0 ≤ a1 ∧ a1 < (a0.Players.length : Int))) ∧ (a0.Players.length * 152 ≤ 140737488351232) ∧ (v20 ≤ (a0.Players.length : Int)) ∧ (v19 = Zdq a0.Players) ∧ (v20 = (v19.length : Int)) ∧ (v5 = ((Zdq a0.Players).take v21.toNat).filter fun x => decide (x < v1)) ∧ (v6 = ((Zdq a0.Players).take v21.toNat).filter fun x => decide (v1 < x)) ∧ (v5.length ≤ v21.toNat) ∧ (v6.length ≤ v21.toNat) ∧ (v21 ≤ v20)
def Zj2 : Zgf → M6
 | .L0 v1 E0 => (2, 0, 0, 0, 0, 0)
 | .L1 v1 v5 v6 v19 v20 v21 => (1, (v20 - v21).toNat, 1000000, 0, 0, 0)
theorem Zg7 (a0 : Zb) (a1 : Int) (v1 : Int) (E0 : Zb) (h : (Zni a0 a1) (.L0 v1 E0)) : Tot (Zfp v1 E0).den (Nx (Zni a0 a1) Zj2 (2, 0, 0, 0, 0, 0) (Zuz a0 a1)) := by
 obtain ⟨al0, O0, i0⟩ := h
 subst al0
 dsimp only [Zfp, LT.den]
 have lq := O0.1.1
 refine tB (Zag9 E0 O0) (fun x1 h2 => ?_)
 have eh2_1 := h2.2.1
 have eh2_2 := h2.2.2
 have q3 := h2.1.1
 exact tL ⟨SzL.nil, SzL.nil, h2.1, cl, cl, cl, cl, (by assumption), cl, tk4, tk4, cl, cl, cl⟩ tk62
theorem Zx7 (a0 : Zb) (a1 : Int) (oa0 : Zq a0) : Tot (Zo8 a0 a1) (Zuz a0 a1) := by
 unfold Zo8
 refine tX (Inv := (Zni a0 a1)) (μ := Zj2) (m := (1000000, 0, 0, 0, 0, 0)) ?_ ?_
 ·dsimp only [Z20, LT.den]
  refine tD (fun h1 => ?_) (fun h1 => ?_)
  ·exact tJ (Zg7 a0 a1 (-1) a0 ⟨rfl, oa0, cl⟩)
  ·have q2 := oa0.1.1
   refine tD (fun h3 => ?_) (fun h3 => ?_)
   ·exact tJ (Zg7 a0 a1 (-1) a0 ⟨rfl, oa0, cl⟩)
   ·exact tJ (Zg7 a0 a1 a1 a0 ⟨rfl, oa0, cl⟩)
 ·intro s hs
  cases s with
  | L0 v1 E0 => exact Zg7 a0 a1 v1 E0 hs
  | L1 v1 v5 v6 v19 v20 v21 =>
   obtain ⟨ov5, ov6, ov19, cv21, i0, i1, i2, i3, i4, i5, i6, i7, i8, i9⟩ := hs
   have lb_v5 := ov5.1
   have lb_v6 := ov6.1
   have lb_v19 := ov19.1
   show Tot (Zo7 v1 v5 v6 v19 v20 v21).den _
   dsimp only [Zo7, LT.den, Zj2]
   refine tD (fun h1 => ?_) (fun h1 => ?_)
   ·refine tB (tI (by omega) (by omega)) (fun x2 h3 => ?_)
    have mh3 := h3.2
    refine tB (Z5m x2 v1) (fun x4 h5 => ?_)
    have eh5_0 := h5
    refine tE (fun h6 => ?_) (fun h6 => ?_)
    ·have q7 : (SzL 8 (fun _ => True)) ([x2] : (List Int)) := ⟨by simp only [List.length_cons, List.length_nil]; omega, fun _ _ => trivial⟩
     have q10 := ov5.1
     refine tB (tA Zc5 (by decide)) (fun x8 h9 => ?_)
     have lh9 : x8.length = v5.length + 1 := by rw [h9, List.length_append]; rfl
     refine qw (v21 + 1) fun q11 q12 => ?_
     exact tL ⟨⟨lo, fun _ _ => trivial⟩, ov6, ov19, cl, cl, cl, cl, (by assumption), cl, tk4, tk4, cl, cl, cl⟩ tk62
    ·refine tE (fun h13 => ?_) (fun h13 => ?_)
     ·have q14 : (SzL 8 (fun _ => True)) ([x2] : (List Int)) := ⟨by simp only [List.length_cons, List.length_nil]; omega, fun _ _ => trivial⟩
      have q17 := ov6.1
      refine tB (tA Zc5 (by decide)) (fun x15 h16 => ?_)
      have lh16 : x15.length = v6.length + 1 := by rw [h16, List.length_append]; rfl
      refine qw (v21 + 1) fun q18 q19 => ?_
      exact tL ⟨ov5, ⟨lo, fun _ _ => trivial⟩, ov19, cl, cl, cl, cl, (by assumption), cl, tk4, tk4, cl, cl, cl⟩ tk62
     ·refine qw (v21 + 1) fun q20 q21 => ?_
      exact tL ⟨ov5, ov6, ov19, cl, cl, cl, cl, (by assumption), cl, tk4, tk4, cl, cl, cl⟩ tk62
   ·have q24 := ov6.1
    have q25 := ov5.1
    refine tB (tA Zlj (by decide)) (fun x22 h23 => ?_)
    have lh23 : x22.length = v6.length + v5.length := by rw [h23, List.length_append]
    try simp only [List.length_cons, List.length_nil, Nat.zero_add] at lh23
    exact tR ⟨⟨lo, fun _ _ => trivial⟩, cl, (by exact Za7f (by assumption) (by assumption) (by assumption) (by assumption) (by grind))⟩
theorem Zx8 (a0 : Zy) (a1 : Int) (oa0 : Zcv a0) : Tot (Zw8 a0 a1) (fun r => (r = tgV a0.Targets a1)) := by
 unfold Zw8
 refine tZ ?_
 dsimp only [Z22, LT.den]
 refine tD (fun h1 => ?_) (fun h1 => ?_)
 ·exact tR tk43
 ·have q2 := oa0.1
  refine tD (fun h3 => ?_) (fun h3 => ?_)
  ·exact tR tk43
  ·refine qw (a1 - 1) fun q4 q5 => ?_
   refine tB (tI (by omega) (by omega)) (fun x6 h7 => ?_)
   have mh7 := h7.2
   exact tR tk43
def Zf1 (a0 : Zb) (a1 : (List Za)) (a2 : Zy) (a3 : Zal) : Zfq → Prop
 | .L0 v1 E0 E1 E2 v36 => (E0 = a0) ∧ (v1 = a1) ∧ (E1 = a2) ∧ (E2 = a3) ∧ ((SzL 176 Zv) v1) ∧ (Zq E0) ∧ (Zcv E1) ∧ (Zd9 E2) ∧ ((v36 = true ↔ (E2.Kind = 3 ∨ E2.Kind = 8)) ∧ E2.Kind ≠ 1 ∧ E2.Kind ≠ 5 ∧ E2.Kind ≠ 6)
 | .L1 v1 E0 E1 E2 v10 => (E0 = a0) ∧ (v1 = a1) ∧ (E1 = a3) ∧ ((SzL 176 Zv) v1) ∧ (Zq E0) ∧ (Zd9 E1) ∧ ((E1.Kind = 3 ∨ E1.Kind = 8) ∧ E1.Kind ≠ 1 ∧ E1.Kind ≠ 5 ∧ E1.Kind ≠ 6 ∧ (E2, v10) = tgV a2.Targets E1.N ∧ ¬ (v10 = true ∧ E2.Object = 0))
def Znj : Zfq → M6
 | .L0 v1 E0 E1 E2 v36 => (0, 0, 0, 0, 0, 0)
 | .L1 v1 E0 E1 E2 v10 => (0, 0, 0, 0, 0, 0)
theorem Zix (a0 : Zb) (a1 : (List Za)) (a2 : Zy) (a3 : Zal) (v1 : (List Za)) (E0 : Zb) (E1 : Zal) (E2 : Zac) (v10 : Bool) (h : (Zf1 a0 a1 a2 a3) (.L1 v1 E0 E1 E2 v10)) : Tot (Zgu v1 E0 E1 E2 v10).den (Nx (Zf1 a0 a1 a2 a3) Znj (0, 0, 0, 0, 0, 0) (fun r => ((SzL 8 (fun _ => True)) r) ∧ (r = tlV a0 a1 a2 a3))) := by
 obtain ⟨al0, al1, al2, ov1, O0, O1, i0⟩ := h
 have lb_v1 := ov1.1
 subst al0
 subst al1
 subst al2
 dsimp only [Zgu, LT.den]
 refine tB (Zx6 E0 v1 E2.Object O0 ov1) (fun x1 h2 => ?_)
 have eh2_1 := h2.2
 refine tF (fun h3 => ?_) (fun h3 => ?_)
 ·refine tF (fun h4 => ?_) (fun h4 => ?_)
  ·refine tE (fun h5 => ?_) (fun h5 => ?_)
   ·have q6 : (SzL 8 (fun _ => True)) ([x1.1.Control] : (List Int)) := ⟨by simp only [List.length_cons, List.length_nil]; omega, fun _ _ => trivial⟩
    exact tR ⟨q6, Zvc⟩
   ·exact tR ⟨SzL.nil, Zvc⟩
  ·exact tR ⟨SzL.nil, Zvc⟩
 ·exact tR ⟨SzL.nil, Zvc⟩
theorem Ziy (a0 : Zb) (a1 : (List Za)) (a2 : Zy) (a3 : Zal) (v1 : (List Za)) (E0 : Zb) (E1 : Zy) (E2 : Zal) (v36 : Bool) (h : (Zf1 a0 a1 a2 a3) (.L0 v1 E0 E1 E2 v36)) : Tot (Zgv v1 E0 E1 E2 v36).den (Nx (Zf1 a0 a1 a2 a3) Znj (0, 0, 0, 0, 0, 0) (fun r => ((SzL 8 (fun _ => True)) r) ∧ (r = tlV a0 a1 a2 a3))) := by
 obtain ⟨al0, al1, al2, al3, ov1, O0, O1, O2, i0⟩ := h
 have lb_v1 := ov1.1
 subst al0
 subst al1
 subst al2
 subst al3
 dsimp only [Zgv, LT.den]
 refine tF (fun h1 => ?_) (fun h1 => ?_)
 ·refine tB (Zx8 E1 E2.N O1) (fun x2 h3 => ?_)
  have eh3_0 := h3
  refine tF (fun h4 => ?_) (fun h4 => ?_)
  ·refine tE (fun h5 => ?_) (fun h5 => ?_)
   ·have q6 : (SzL 8 (fun _ => True)) ([x2.1.Player] : (List Int)) := ⟨by simp only [List.length_cons, List.length_nil]; omega, fun _ _ => trivial⟩
    exact tR ⟨q6, Zvc⟩
   ·exact tJ (Zix E0 v1 E1 E2 v1 E0 E2 x2.1 x2.2 ⟨rfl, rfl, rfl, ov1, O0, O2, (by grind)⟩)
  ·exact tJ (Zix E0 v1 E1 E2 v1 E0 E2 x2.1 x2.2 ⟨rfl, rfl, rfl, ov1, O0, O2, (by grind)⟩)
 ·exact tR ⟨SzL.nil, Zvc⟩
theorem Zace (a0 : Zb) (a1 : (List Za)) (a2 : Zy) (a3 : Zal) (oa0 : Zq a0) (oa1 : (SzL 176 Zv) a1) (oa2 : Zcv a2) (oa3 : Zd9 a3) : Tot (Ztm a0 a1 a2 a3) (fun r => ((SzL 8 (fun _ => True)) r) ∧ (r = tlV a0 a1 a2 a3)) := by
 unfold Ztm
 refine tX (Inv := (Zf1 a0 a1 a2 a3)) (μ := Znj) (m := (1000000, 0, 0, 0, 0, 0)) ?_ ?_
 ·have lb_a1 := oa1.1
  have lq := oa0.1.1
  dsimp only [Zzg, LT.den]
  refine tE (fun h1 => ?_) (fun h1 => ?_)
  ·have q2 : (SzL 8 (fun _ => True)) ([a2.You] : (List Int)) := ⟨by simp only [List.length_cons, List.length_nil]; omega, fun _ _ => trivial⟩
   exact tR ⟨q2, Zvc⟩
  ·refine tE (fun h3 => ?_) (fun h3 => ?_)
   ·refine tB (Zx7 a0 a2.You oa0) (fun x4 h5 => ?_)
    have eh5_1 := h5.2.1
    have eh5_2 := h5.2.2
    exact tR ⟨h5.1, Zvc⟩
   ·refine tE (fun h6 => ?_) (fun h6 => ?_)
    ·have q7 : (SzL 8 (fun _ => True)) ([a2.You] : (List Int)) := ⟨by simp only [List.length_cons, List.length_nil]; omega, fun _ _ => trivial⟩
     refine tB (Zx7 a0 a2.You oa0) (fun x8 h9 => ?_)
     have eh9_1 := h9.2.1
     have eh9_2 := h9.2.2
     have q12 := q7.1
     have q13 := h9.1.1
     refine tB (tA Zlj (by decide)) (fun x10 h11 => ?_)
     have lh11 : x10.length = [a2.You].length + x8.length := by rw [h11, List.length_append]
     try simp only [List.length_cons, List.length_nil, Nat.zero_add] at lh11
     exact tR ⟨⟨lo, fun _ _ => trivial⟩, Zvc⟩
    ·refine tE (fun h14 => ?_) (fun h14 => ?_)
     ·exact tJ (Ziy a0 a1 a2 a3 a1 a0 a2 a3 (a3.Kind == 3) ⟨rfl, rfl, rfl, rfl, oa1, oa0, oa2, oa3, (by grind)⟩)
     ·exact tJ (Ziy a0 a1 a2 a3 a1 a0 a2 a3 (a3.Kind == 8) ⟨rfl, rfl, rfl, rfl, oa1, oa0, oa2, oa3, (by grind)⟩)
 ·intro s hs
  cases s with
  | L0 v1 E0 E1 E2 v36 => exact Ziy a0 a1 a2 a3 v1 E0 E1 E2 v36 hs
  | L1 v1 E0 E1 E2 v10 => exact Zix a0 a1 a2 a3 v1 E0 E1 E2 v10 hs
theorem Zla (a0 : Int) (a1 : Zb) (oa1 : Zq a1) : Tot (Zjv a0 a1) (fun r => (r = !Zli a1.Players a0)) := by
 unfold Zjv
 refine tZ ?_
 dsimp only [Zny, LT.den]
 refine tD (fun h1 => ?_) (fun h1 => ?_)
 ·exact tR tk41
 ·have q2 := oa1.1.1
  refine tD (fun h3 => ?_) (fun h3 => ?_)
  ·exact tR tk41
  ·refine tB (tI (by omega) (by omega)) (fun x4 h5 => ?_)
   have oh5 : Zbv x4 := oa1.1.2 x4 h5.1
   have mh5 := h5.2
   exact tR tk41
def Zgh (a0 : (List Int)) (a1 : Zb) : Za8 → Prop
 | .L0 v0 w1_0 v7 v8 => (v0 = a0) ∧ (w1_0 = a1) ∧ ((SzL 8 (fun _ => True)) v0) ∧ (Zq w1_0) ∧ (0 ≤ v8) ∧ (v7 = (v0.length : Int)) ∧ (∀ (k : Nat) x, (k : Int) < v8 → v0[k]? = some x → Zli w1_0.Players x = true)
def Zdh : Za8 → M6
 | .L0 v0 w1_0 v7 v8 => (1, (v7 - v8).toNat, 1000000, 0, 0, 0)
theorem Zgi (a0 : (List Int)) (a1 : Zb) (oa0 : (SzL 8 (fun _ => True)) a0) (oa1 : Zq a1) : Tot (Zcc a0 a1) (fun r => (FD a0 (Zli a1.Players) r)) := by
 unfold Zcc
 refine tX (Inv := (Zgh a0 a1)) (μ := Zdh) (m := (1000000, 0, 0, 0, 0, 0)) ?_ ?_
 ·have lb_a0 := oa0.1
  dsimp only [Zdl, LT.den]
  have q1 := oa0.1
  exact tL ⟨rfl, rfl, oa0, oa1, cl, cl, tk28⟩ tk46
 ·intro s hs
  cases s with
  | L0 v0 w1_0 v7 v8 =>
   obtain ⟨al0, al1, ov0, ow1_0, cv8, i0, i1⟩ := hs
   have lb_v0 := ov0.1
   subst al0
   subst al1
   show Tot (Zby v0 w1_0 v7 v8).den _
   dsimp only [Zby, LT.den]
   refine tD (fun h1 => ?_) (fun h1 => ?_)
   ·refine tB (tI (by omega) (by omega)) (fun x2 h3 => ?_)
    have mh3 := h3.2
    refine tB (Zla x2 w1_0 ow1_0) (fun x4 h5 => ?_)
    have eh5_0 := h5
    refine tF (fun h6 => ?_) (fun h6 => ?_)
    ·exact tR tk24
    ·refine qw (v8 + 1) fun q7 q8 => ?_
     exact tL ⟨rfl, rfl, ov0, ow1_0, cl, cl, tk28⟩ tk46
   ·exact tR tk24
abbrev Ze7 (b0 : (List Int)) (a1 : Zb) (r : (List Int)) : Prop := ((SzL 8 (fun _ => True)) r) ∧ (r = b0.filter (Zli a1.Players))
def Zfe (b0 : (List Int)) (a1 : Zb) : Za1 → Prop
 | .L0 v0 w1_0 v5 v6 => (w1_0 = a1) ∧ ((SzL 8 (fun _ => True)) v0) ∧ (Zq w1_0) ∧ (0 ≤ v6) ∧ (DI b0 v0 (Zli w1_0.Players) v5 v6) ∧ (v6 ≤ (v0.length : Int))
def Zcx : Za1 → M6
 | .L0 v0 w1_0 v5 v6 => (1, ((v0.length : Int) - v6).toNat, 1000000, 0, 0, 0)
theorem Zff (b0 : (List Int)) (a1 : Zb) (ob0 : (SzL 8 (fun _ => True)) b0) (oa1 : Zq a1) : Tot (Zbq b0 a1) (Ze7 b0 a1) := by
 unfold Zbq
 refine tX (Inv := (Zfe b0 a1)) (μ := Zcx) (m := (1000000, 0, 0, 0, 0, 0)) ?_ ?_
 ·have lb_b0 := ob0.1
  dsimp only [Zc0, LT.den]
  refine tB (Zgi b0 a1 ob0 oa1) (fun x1 h2 => ?_)
  have eh2_0 := h2
  have ph2 := Za2k eh2_0
  refine tE (fun h3 => ?_) (fun h3 => ?_)
  ·exact tR ⟨ob0, tk14⟩
  ·refine qw (x1 + 1) fun q4 q5 => ?_
   exact tL ⟨rfl, ob0, oa1, cl, tk3, cl⟩ tk44
 ·intro s hs
  cases s with
  | L0 v0 w1_0 v5 v6 =>
   obtain ⟨al0, ov0, ow1_0, cv6, i0, i1⟩ := hs
   have lb_v0 := ov0.1
   subst al0
   show Tot (Zbk v0 w1_0 v5 v6).den _
   dsimp only [Zbk, LT.den]
   have l0 := i0.1; have l1 := i0.2.1; have l2 := i0.2.2.1
   have q1 := ov0.1
   refine tD (fun h2 => ?_) (fun h2 => ?_)
   ·refine tB (tI (by omega) (by omega)) (fun x3 h4 => ?_)
    have mh4 := h4.2
    refine tB (Zla x3 w1_0 ow1_0) (fun x5 h6 => ?_)
    have eh6_0 := h6
    refine tO (fun h7 => ?_) (fun h7 => ?_)
    ·refine tB (tI (by omega) (by omega)) (fun x8 h9 => ?_)
     have mh9 := h9.2
     refine tB (Tot.set (by omega) (by omega)) (fun x10 h11 => ?_)
     have lh11 := h11.1
     have vh11 := h11.2.2
     refine qw (v5 + 1) fun q12 q13 => ?_
     refine qw (v6 + 1) fun q14 q15 => ?_
     exact tL ⟨rfl, ⟨lo, fun _ _ => trivial⟩, ow1_0, cl, tk3, cl⟩ tk44
    ·refine qw (v6 + 1) fun q16 q17 => ?_
     exact tL ⟨rfl, ov0, ow1_0, cl, tk3, cl⟩ tk44
   ·refine tB (Tot.clr (by omega) (by omega)) (fun x18 h19 => ?_)
    have lh19 := h19.1
    have vh19 := h19.2.2
    have q22 : x18.length * 8 ≤ 140737488351232 := (show SzL 8 (fun _ => True) x18 from ⟨lo, fun _ _ => trivial⟩).1
    refine tB (Tot.slice (by omega) (by omega) (by omega)) (fun x20 h21 => ?_)
    have lh21 := h21.1
    have vh21 := h21.2.2
    exact tR ⟨⟨lo, fun _ _ => trivial⟩, tk14⟩
theorem Zln (a0 : Zb) (a1 : (List Za)) (a2 : Zy) (a3 : Zal) (oa0 : Zq a0) (oa1 : (SzL 176 Zv) a1) (oa2 : Zcv a2) (oa3 : Zd9 a3) : Tot (Zmq a0 a1 a2 a3) (fun r => ((SzL 8 (fun _ => True)) r) ∧ (r = plV a0 a1 a2 a3)) := by
 unfold Zmq
 refine tZ ?_
 have lb_a1 := oa1.1
 dsimp only [Zzi, LT.den]
 refine tB (Zace a0 a1 a2 a3 oa0 oa1 oa2 oa3) (fun x1 h2 => ?_)
 have eh2_1 := h2.2
 refine tB (Zff x1 a0 h2.1 oa0) (fun x3 h4 => ?_)
 have eh4_1 := h4.2
 exact tR ⟨h4.1, (by unfold plV; grind)⟩
def Zaws (a0 : (List Int)) (a1 : (List Int)) : Zo9 → Prop
 | .L0 v0 v1 v5 => (v0 = a0) ∧ (v1 = a1) ∧ ((SzL 8 (fun _ => True)) v0) ∧ ((SzL 8 (fun _ => True)) v1) ∧ (0 ≤ v5) ∧ (v0.length = v1.length) ∧ (∀ k : Nat, (k : Int) < v5 → v0[k]? = v1[k]?)
def Z1w : Zo9 → M6
 | .L0 v0 v1 v5 => (1, ((v0.length : Int) - v5).toNat, 1000000, 0, 0, 0)
theorem Zg2 (a0 : (List Int)) (a1 : (List Int)) (oa0 : (SzL 8 (fun _ => True)) a0) (oa1 : (SzL 8 (fun _ => True)) a1) : Tot (Zagk a0 a1) (fun r => (r = true ↔ a0 = a1)) := by
 unfold Zagk
 refine tX (Inv := (Zaws a0 a1)) (μ := Z1w) (m := (1000000, 0, 0, 0, 0, 0)) ?_ ?_
 ·have lb_a0 := oa0.1
  have lb_a1 := oa1.1
  dsimp only [Zakn, LT.den]
  have q1 := oa0.1
  have q2 := oa1.1
  refine tN (fun h3 => ?_) (fun h3 => ?_)
  ·exact tR (by first | (refine ⟨fun _ => Zags (by assumption) (by assumption) (by omega), fun _ => rfl⟩) | (refine ⟨fun h => absurd h (by decide), fun h => ?_⟩; exfalso; grind))
  ·exact tL ⟨rfl, rfl, oa0, oa1, cl, cl, tk21⟩ (by unfold Z1w lt6; dsimp only; omega)
 ·intro s hs
  cases s with
  | L0 v0 v1 v5 =>
   obtain ⟨al0, al1, ov0, ov1, cv5, i0, i1⟩ := hs
   have lb_v0 := ov0.1
   have lb_v1 := ov1.1
   subst al0
   subst al1
   show Tot (Z02 v0 v1 v5).den _
   dsimp only [Z02, LT.den]
   have q1 := ov0.1
   refine tD (fun h2 => ?_) (fun h2 => ?_)
   ·refine tB (tI (by omega) (by omega)) (fun x3 h4 => ?_)
    have mh4 := h4.2
    refine tB (tI (by omega) (by omega)) (fun x5 h6 => ?_)
    have mh6 := h6.2
    refine tN (fun h7 => ?_) (fun h7 => ?_)
    ·exact tR (by first | (refine ⟨fun _ => Zags (by assumption) (by assumption) (by omega), fun _ => rfl⟩) | (refine ⟨fun h => absurd h (by decide), fun h => ?_⟩; exfalso; grind))
    ·refine qw (v5 + 1) fun q8 q9 => ?_
     exact tL ⟨rfl, rfl, ov0, ov1, cl, cl, tk21⟩ (by unfold Z1w lt6; dsimp only; omega)
   ·exact tR (by first | (refine ⟨fun _ => Zags (by assumption) (by assumption) (by omega), fun _ => rfl⟩) | (refine ⟨fun h => absurd h (by decide), fun h => ?_⟩; exfalso; grind))
theorem Zlb (a0 : Int) (a1 : Zb) (oa1 : Zq a1) : Tot (Zjw a0 a1) (fun r => (r = !exB a1 a0)) := by
 unfold Zjw
 refine tZ ?_
 dsimp only [Zn0, LT.den]
 refine tB (Z63 a1 a0 oa1) (fun x1 h2 => ?_)
 have eh2_0 := h2
 exact tR (by unfold exB; grind [Za8d])
def Zgj (a0 : (List Int)) (a1 : Zb) : Za9 → Prop
 | .L0 v0 w1_0 v7 v8 => (v0 = a0) ∧ (w1_0 = a1) ∧ ((SzL 8 (fun _ => True)) v0) ∧ (Zq w1_0) ∧ (0 ≤ v8) ∧ (v7 = (v0.length : Int)) ∧ (∀ (k : Nat) x, (k : Int) < v8 → v0[k]? = some x → exB w1_0 x = true)
def Zdi : Za9 → M6
 | .L0 v0 w1_0 v7 v8 => (1, (v7 - v8).toNat, 1000000, 0, 0, 0)
theorem Zgk (a0 : (List Int)) (a1 : Zb) (oa0 : (SzL 8 (fun _ => True)) a0) (oa1 : Zq a1) : Tot (Zcd a0 a1) (fun r => (FD a0 (exB a1) r)) := by
 unfold Zcd
 refine tX (Inv := (Zgj a0 a1)) (μ := Zdi) (m := (1000000, 0, 0, 0, 0, 0)) ?_ ?_
 ·have lb_a0 := oa0.1
  dsimp only [Zdn, LT.den]
  have q1 := oa0.1
  exact tL ⟨rfl, rfl, oa0, oa1, cl, cl, tk28⟩ tk47
 ·intro s hs
  cases s with
  | L0 v0 w1_0 v7 v8 =>
   obtain ⟨al0, al1, ov0, ow1_0, cv8, i0, i1⟩ := hs
   have lb_v0 := ov0.1
   subst al0
   subst al1
   show Tot (Zbz v0 w1_0 v7 v8).den _
   dsimp only [Zbz, LT.den]
   refine tD (fun h1 => ?_) (fun h1 => ?_)
   ·refine tB (tI (by omega) (by omega)) (fun x2 h3 => ?_)
    have mh3 := h3.2
    refine tB (Zlb x2 w1_0 ow1_0) (fun x4 h5 => ?_)
    have eh5_0 := h5
    refine tF (fun h6 => ?_) (fun h6 => ?_)
    ·exact tR tk24
    ·refine qw (v8 + 1) fun q7 q8 => ?_
     exact tL ⟨rfl, rfl, ov0, ow1_0, cl, cl, tk28⟩ tk47
   ·exact tR tk24
def Zfg (b0 : (List Int)) (a1 : Zb) : Za2 → Prop
 | .L0 v0 w1_0 v5 v6 => (w1_0 = a1) ∧ ((SzL 8 (fun _ => True)) v0) ∧ (Zq w1_0) ∧ (0 ≤ v6) ∧ (DI b0 v0 (exB w1_0) v5 v6) ∧ (v6 ≤ (v0.length : Int))
def Zcy : Za2 → M6
 | .L0 v0 w1_0 v5 v6 => (1, ((v0.length : Int) - v6).toNat, 1000000, 0, 0, 0)
theorem Zag (b0 : (List Int)) (a1 : Zb) (ob0 : (SzL 8 (fun _ => True)) b0) (oa1 : Zq a1) : Tot (Zbr b0 a1) (fun r => ((SzL 8 (fun _ => True)) r) ∧ (r = b0.filter (exB a1))) := by
 unfold Zbr
 refine tX (Inv := (Zfg b0 a1)) (μ := Zcy) (m := (1000000, 0, 0, 0, 0, 0)) ?_ ?_
 ·have lb_b0 := ob0.1
  dsimp only [Zc2, LT.den]
  refine tB (Zgk b0 a1 ob0 oa1) (fun x1 h2 => ?_)
  have eh2_0 := h2
  have ph2 := Za2k eh2_0
  refine tE (fun h3 => ?_) (fun h3 => ?_)
  ·exact tR ⟨ob0, tk14⟩
  ·refine qw (x1 + 1) fun q4 q5 => ?_
   exact tL ⟨rfl, ob0, oa1, cl, tk3, cl⟩ tk45
 ·intro s hs
  cases s with
  | L0 v0 w1_0 v5 v6 =>
   obtain ⟨al0, ov0, ow1_0, cv6, i0, i1⟩ := hs
   have lb_v0 := ov0.1
   subst al0
   show Tot (Zbl v0 w1_0 v5 v6).den _
   dsimp only [Zbl, LT.den]
   have l0 := i0.1; have l1 := i0.2.1; have l2 := i0.2.2.1
   have q1 := ov0.1
   refine tD (fun h2 => ?_) (fun h2 => ?_)
   ·refine tB (tI (by omega) (by omega)) (fun x3 h4 => ?_)
    have mh4 := h4.2
    refine tB (Zlb x3 w1_0 ow1_0) (fun x5 h6 => ?_)
    have eh6_0 := h6
    refine tO (fun h7 => ?_) (fun h7 => ?_)
    ·refine tB (tI (by omega) (by omega)) (fun x8 h9 => ?_)
     have mh9 := h9.2
     refine tB (Tot.set (by omega) (by omega)) (fun x10 h11 => ?_)
     have lh11 := h11.1
     have vh11 := h11.2.2
     refine qw (v5 + 1) fun q12 q13 => ?_
     refine qw (v6 + 1) fun q14 q15 => ?_
     exact tL ⟨rfl, ⟨lo, fun _ _ => trivial⟩, ow1_0, cl, tk3, cl⟩ tk45
    ·refine qw (v6 + 1) fun q16 q17 => ?_
     exact tL ⟨rfl, ov0, ow1_0, cl, tk3, cl⟩ tk45
   ·refine tB (Tot.clr (by omega) (by omega)) (fun x18 h19 => ?_)
    have lh19 := h19.1
    have vh19 := h19.2.2
    have q22 : x18.length * 8 ≤ 140737488351232 := (show SzL 8 (fun _ => True) x18 from ⟨lo, fun _ _ => trivial⟩).1
    refine tB (Tot.slice (by omega) (by omega) (by omega)) (fun x20 h21 => ?_)
    have lh21 := h21.1
    have vh21 := h21.2.2
    exact tR ⟨⟨lo, fun _ _ => trivial⟩, tk14⟩
theorem Zu0 (a0 : Zb) (a1 : (List Za)) (a2 : Zy) (a3 : Zal) (oa0 : Zq a0) (oa1 : (SzL 176 Zv) a1) (oa2 : Zcv a2) (oa3 : Zd9 a3) : Tot (Ztn a0 a1 a2 a3) (fun r => ((SzL 8 (fun _ => True)) r) ∧ (r = obV a0 a1 a2 a3)) := by
 unfold Ztn
 refine tZ ?_
 have lb_a1 := oa1.1
 dsimp only [Zzk, LT.den]
 refine tE (fun h1 => ?_) (fun h1 => ?_)
 ·have q2 : (SzL 8 (fun _ => True)) ([a2.Source] : (List Int)) := ⟨by simp only [List.length_cons, List.length_nil]; omega, fun _ _ => trivial⟩
  refine tB (Zag [a2.Source] a0 q2 oa0) (fun x3 h4 => ?_)
  have eh4_1 := h4.2
  exact tR ⟨h4.1, Z5d⟩
 ·refine tE (fun h5 => ?_) (fun h5 => ?_)
  ·have q6 : (SzL 8 (fun _ => True)) ([a2.Event.Object] : (List Int)) := ⟨by simp only [List.length_cons, List.length_nil]; omega, fun _ _ => trivial⟩
   refine tB (Zag [a2.Event.Object] a0 q6 oa0) (fun x7 h8 => ?_)
   have eh8_1 := h8.2
   exact tR ⟨h8.1, Z5d⟩
  ·refine tE (fun h9 => ?_) (fun h9 => ?_)
   ·refine tB (Z3k a0 a1 a2.You a2.Source a3.Filter oa0 oa1 oa3) (fun x10 h11 => ?_)
    have eh11_1 := h11.2
    refine tB (Zag x10 a0 h11.1 oa0) (fun x12 h13 => ?_)
    have eh13_1 := h13.2
    exact tR ⟨h13.1, Z5d⟩
   ·refine tE (fun h14 => ?_) (fun h14 => ?_)
    ·refine tB (Zx8 a2 a3.N oa2) (fun x15 h16 => ?_)
     have eh16_0 := h16
     refine tF (fun h17 => ?_) (fun h17 => ?_)
     ·refine tN (fun h18 => ?_) (fun h18 => ?_)
      ·have q19 : (SzL 8 (fun _ => True)) ([x15.1.Object] : (List Int)) := ⟨by simp only [List.length_cons, List.length_nil]; omega, fun _ _ => trivial⟩
       refine tB (Zag [x15.1.Object] a0 q19 oa0) (fun x20 h21 => ?_)
       have eh21_1 := h21.2
       exact tR ⟨h21.1, Z5d⟩
      ·refine tB (Zag ([] : (List Int)) a0 SzL.nil oa0) (fun x22 h23 => ?_)
       have eh23_1 := h23.2
       exact tR ⟨h23.1, Z5d⟩
     ·refine tB (Zag ([] : (List Int)) a0 SzL.nil oa0) (fun x24 h25 => ?_)
      have eh25_1 := h25.2
      exact tR ⟨h25.1, Z5d⟩
    ·refine tB (Zag ([] : (List Int)) a0 SzL.nil oa0) (fun x26 h27 => ?_)
     have eh27_1 := h27.2
     exact tR ⟨h27.1, Z5d⟩
abbrev alO (n : Int) : Zg := ⟨n, 0, 0, 0, 0, false, false, false, false, 0, ⟨0, 0, 0⟩, 0, -1, -1, false, 0, 0⟩
theorem Zuq : Tot Z9m (fun r => r = true) := by
 unfold Z9m LF.run; dsimp only [Zad1, LT.den]
 rw [Option.bind_some, Zho]
 show Tot (Zb5 Z04.step (.L0 (⟨[⟨7, 0, 0, ⟨0, 0, 0, 0, 0, 0⟩, false, false, [], [], []⟩, ⟨20, 0, 0, ⟨0, 0, 0, 0, 0, 0⟩, false, false, [], [4], []⟩], [], [], [], [], [], [], 0, 0, 0, false, 0, 0, 5, 0, 0, [], 0, 0⟩ : Zb) 1)) _
 rw [Ze3 (s' := .L0 (⟨[⟨7, 0, 0, ⟨0, 0, 0, 0, 0, 0⟩, false, false, [], [], []⟩, ⟨20, 0, 0, ⟨0, 0, 0, 0, 0, 0⟩, false, false, [], [4], []⟩], [alO 1], [1], [], [], [], [], 0, 0, 0, false, 0, 0, 5, 0, 0, [], 0, 0⟩ : Zb) 2) (by kernel_rfl), Ze3 (s' := .L0 (⟨[⟨7, 0, 0, ⟨0, 0, 0, 0, 0, 0⟩, false, false, [], [], []⟩, ⟨20, 0, 0, ⟨0, 0, 0, 0, 0, 0⟩, false, false, [], [4], []⟩], [alO 1, alO 2], [1, 2], [], [], [], [], 0, 0, 0, false, 0, 0, 5, 0, 0, [], 0, 0⟩ : Zb) 3) (by kernel_rfl), Ze3 (s' := .L0 (⟨[⟨7, 0, 0, ⟨0, 0, 0, 0, 0, 0⟩, false, false, [], [], []⟩, ⟨20, 0, 0, ⟨0, 0, 0, 0, 0, 0⟩, false, false, [], [4], []⟩], [alO 1, alO 2, alO 3], [1, 2, 3], [], [], [], [], 0, 0, 0, false, 0, 0, 5, 0, 0, [], 0, 0⟩ : Zb) 4) (by kernel_rfl)]
 have szS : Zq (⟨[⟨7, 0, 0, ⟨0, 0, 0, 0, 0, 0⟩, false, false, [], [], []⟩, ⟨20, 0, 0, ⟨0, 0, 0, 0, 0, 0⟩, false, false, [], [4], []⟩], [alO 1, alO 2, alO 3], [1, 2, 3], [], [], [], [], 0, 0, 0, false, 0, 0, 5, 0, 0, [], 0, 0⟩ : Zb) := by
  refine ⟨⟨by decide, fun x hx => ?_⟩, ⟨by decide, fun _ _ => trivial⟩, ⟨by decide, fun _ _ => trivial⟩, SzL.nil, SzL.nil, SzL.nil, SzL.nil, SzL.nil⟩
  rcases List.mem_cons.1 hx with rfl | hx
  ·exact ⟨SzL.nil, SzL.nil, SzL.nil⟩
  ·rcases List.mem_cons.1 hx with rfl | hx
   ·exact ⟨SzL.nil, ⟨by decide, fun _ _ => trivial⟩, SzL.nil⟩
   ·cases hx
 have szA : SzL 176 Zv [(⟨[], ⟨0, 0, ⟨0, 0, 0, 0, 0⟩⟩, 0, ⟨0, 1, []⟩, 4, 0, 0, [], 0⟩ : Za), ⟨[], ⟨0, 0, ⟨0, 0, 0, 0, 0⟩⟩, 0, ⟨0, 1, []⟩, 4, 0, 0, [], 0⟩, ⟨[], ⟨0, 0, ⟨0, 0, 0, 0, 0⟩⟩, 0, ⟨0, 1, []⟩, 4, 0, 0, [], 0⟩] :=
  ⟨by decide, mem_cons' ⟨SzS.nil, SzL.nil, SzL.nil⟩ (mem_cons' ⟨SzS.nil, SzL.nil, SzL.nil⟩ (mem_cons' ⟨SzS.nil, SzL.nil, SzL.nil⟩ fun _ h => by cases h))⟩
 have szC : SzL 16 (fun _ => True) [(⟨0, 1⟩ : Zac), ⟨3, 0⟩] := ⟨by decide, fun _ _ => trivial⟩
 have szI : ∀ l : List Int, l.length ≤ 100 → SzL 8 (fun _ => True) l := fun l h => ⟨by omega, fun _ _ => trivial⟩
 refine Tot.last ?_
 show Tot (Zw9 _ 4).den _
 dsimp only [Zw9, LT.den]
 rw [show decide ((4 : Int) ≤ 3) = false from rfl, cond_false]
 refine tB (Zpw _ _ _ _ szS szA szC SzS.nil) (fun x h => ?_)
 subst h
 refine Tot.bt (by kernel_rfl) ?_
 refine tB (Zpw _ _ _ _ szS szA szC SzS.nil) (fun x h => ?_)
 subst h
 refine Tot.bt (by kernel_rfl) ?_
 refine tB (Zpw _ _ _ _ szS szA szC SzS.nil) (fun x h => ?_)
 subst h
 refine Tot.bt (by kernel_rfl) ?_
 refine tB (Zpw _ _ _ _ szS szA szC SzS.nil) (fun x h => ?_)
 subst h
 refine Tot.bt (by kernel_rfl) ?_
 refine tB (Zln _ _ _ _ szS szA szC SzS.nil) (fun x h => ?_)
 obtain ⟨h1, h2⟩ := h
 refine tB (Zg2 _ _ h1 (szI _ (by decide))) (fun y h => ?_)
 obtain rfl : y = true := h.2 Zasa
 refine Tot.bt rfl ?_
 refine tB (Zln _ _ _ _ szS szA szC SzS.nil) (fun x h => ?_)
 obtain ⟨h1, h2⟩ := h
 refine tB (Zg2 _ _ h1 (szI _ (by decide))) (fun y h => ?_)
 obtain rfl : y = true := h.2 Zasa
 refine Tot.bt rfl ?_
 refine tB (Zu0 _ _ _ _ szS szA szC SzS.nil) (fun x h => ?_)
 obtain ⟨h1, h2⟩ := h
 refine tB (Zg2 _ _ h1 (szI _ (by decide))) (fun y h => ?_)
 obtain rfl : y = true := h.2 Zasa
 refine Tot.bt rfl ?_
 refine tB (Zu0 _ _ _ _ szS szA szC SzS.nil) (fun x h => ?_)
 obtain ⟨h1, h2⟩ := h
 refine tB (Zg2 _ _ h1 (szI _ (by decide))) (fun y h => ?_)
 obtain rfl : y = true := h.2 Zasa
 exact ⟨_, rfl, _, rfl, rfl⟩
def Zaoa : Zkk → Prop
 | .L0 E0 v3 v4 v5 => (0 ≤ v5) ∧ True
def Z64 : Zkk → M6
 | .L0 E0 v3 v4 v5 => (1, (5 - v5).toNat, 1000000, 0, 0, 0)
theorem Zaob (a0 : Zp) : Tot (Z4s a0) (fun r => True) := by
 unfold Z4s
 refine tX (Inv := Zaoa) (μ := Z64) (m := (1000000, 0, 0, 0, 0, 0)) ?_ ?_
 ·dsimp only [Z9n, LT.den]
  refine tB (Zpn a0) (fun x1 h2 => ?_)
  have eh2_0 := h2.1
  have eh2_1 := h2.2
  refine tO (fun h3 => ?_) (fun h3 => ?_)
  ·exact tR trivial
  ·have h3_0 := eh2_0 h3
   have h3_1 := eh2_1 h3
   exact tL ⟨cl, trivial⟩ tk77
 ·intro s hs
  cases s with
  | L0 E0 v3 v4 v5 =>
   obtain ⟨cv5, _⟩ := hs
   show Tot (Zto E0 v3 v4 v5).den _
   dsimp only [Zto, LT.den]
   refine tD (fun h1 => ?_) (fun h1 => ?_)
   ·refine tB (tI (by omega) tk53) (fun x2 h3 => ?_)
    refine tD (fun h4 => ?_) (fun h4 => ?_)
    ·refine qw (v3 + v4) fun q5 q6 => ?_
     refine qw (2 * v4) fun q7 q8 => ?_
     refine qw (v5 + 1) fun q9 q10 => ?_
     exact tL ⟨cl, trivial⟩ tk77
    ·refine qw (2 * v4) fun q11 q12 => ?_
     refine qw (v5 + 1) fun q13 q14 => ?_
     exact tL ⟨cl, trivial⟩ tk77
   ·exact tR trivial
def Zalq : Zi9 → Prop
 | .L0 E0 E1 E2 v4 => (Zat E0) ∧ (Zat E1) ∧ (Zat E2) ∧ (0 ≤ v4) ∧ (E2.Effects.length ≤ v4.toNat) ∧ (v4.toNat ≤ E0.Effects.length)
def Zq9 : Zi9 → M6
 | .L0 E0 E1 E2 v4 => (1, ((E0.Effects.length : Int) - v4).toNat, 1000000, 0, 0, 0)
theorem Zalr (a0 : Zj) (oa0 : Zat a0) : Tot (Zro a0) (fun r => (Zat r)) := by
 unfold Zro
 refine tX (Inv := Zalq) (μ := Zq9) (m := (1000000, 0, 0, 0, 0, 0)) ?_ ?_
 ·dsimp only [Z6a, LT.den]
  have q3 := oa0.2.1.1
  refine tB (tA Zlj (by decide)) (fun x1 h2 => ?_)
  have lh2 : x1.length = ([] : (List Zr)).length + a0.Mods.length := by rw [h2, List.length_append]
  try simp only [List.length_cons, List.length_nil, Nat.zero_add] at lh2
  have q6 := oa0.2.2.2.1.1
  refine tB (tA Zlj (by decide)) (fun x4 h5 => ?_)
  have lh5 : x4.length = ([] : (List Zcs)).length + a0.Specs.length := by rw [h5, List.length_append]
  try simp only [List.length_cons, List.length_nil, Nat.zero_add] at lh5
  exact tL ⟨oa0, ⟨(SzS.nil), SzL.nil, (SzS.nil), SzL.nil, SzL.nil, (SzS.nil)⟩, ⟨oa0.1, (SzL.app (k := 176) h2 lo (fun _ h => by cases h) oa0.2.1.2), oa0.2.2.1, (SzL.app (k := 144) h5 lo (fun _ h => by cases h) oa0.2.2.2.1.2), SzL.nil, oa0.2.2.2.2.2⟩, cl, cl, cl⟩ (by unfold Zq9 lt6; dsimp only; omega)
 ·intro s hs
  cases s with
  | L0 E0 E1 E2 v4 =>
   obtain ⟨O0, O1, O2, cv4, i0, i1⟩ := hs
   show Tot (Zqn E0 E1 E2 v4).den _
   dsimp only [Zqn, LT.den]
   have q1 := O0.2.2.2.2.1.1
   refine tD (fun h2 => ?_) (fun h2 => ?_)
   ·refine tB (tI (by omega) (by omega)) (fun x3 h4 => ?_)
    have oh4 : Zan x3 := O0.2.2.2.2.1.2 x3 h4.1
    have q7 := oh4.2.2.2.2.1
    refine tB (tA Zlj (by decide)) (fun x5 h6 => ?_)
    have lh6 : x5.length = ([] : (List Zr)).length + x3.Mods.length := by rw [h6, List.length_append]
    try simp only [List.length_cons, List.length_nil, Nat.zero_add] at lh6
    have q8 : (SzL 560 Zan) ([(⟨x3.Op, x3.Ref, x3.Amount, x3.Counter, x3.Zone, x3.Card, x3.Filter, x3.Pool, x5⟩ : Zz)] : (List Zz)) := ⟨by simp only [List.length_cons, List.length_nil]; omega, (mem_cons' ⟨oh4.1, oh4.2.1, oh4.2.2.1, oh4.2.2.2.1, (SzL.app (k := 176) h6 lo (fun _ h => by cases h) oh4.2.2.2.2.2)⟩ (fun _ h => by cases h))⟩
    have q11 := O2.2.2.2.2.1.1
    refine tB (tA Zc5 (by decide)) (fun x9 h10 => ?_)
    have lh10 : x9.length = E2.Effects.length + 1 := by rw [h10, List.length_append]; rfl
    refine qw (v4 + 1) fun q12 q13 => ?_
    exact tL ⟨O0, O1, ⟨O2.1, O2.2.1, O2.2.2.1, O2.2.2.2.1, (SzL.app (k := 560) h10 lo O2.2.2.2.2.1.2 q8.2), O2.2.2.2.2.2⟩, cl, cl, cl⟩ (by unfold Zq9 lt6; dsimp only; omega)
   ·exact tR O2
abbrev Zaha (a0 : Zn) (r : Za) : Prop := (Zv r) ∧ (r.Abilities.length ≤ a0.Abilities.length)
def Zals (a0 : Zn) : Zja → Prop
 | .L0 E0 E1 E2 v4 => (E0 = a0) ∧ (Zaf E0) ∧ (Zv E1) ∧ (Zv E2) ∧ (0 ≤ v4) ∧ (E2.Abilities.length ≤ v4.toNat) ∧ (v4.toNat ≤ E0.Abilities.length)
def Zra : Zja → M6
 | .L0 E0 E1 E2 v4 => (1, ((E0.Abilities.length : Int) - v4).toNat, 1000000, 0, 0, 0)
theorem Zalt (a0 : Zn) (oa0 : Zaf a0) : Tot (Z05 a0) (Zaha a0) := by
 unfold Z05
 refine tX (Inv := (Zals a0)) (μ := Zra) (m := (1000000, 0, 0, 0, 0, 0)) ?_ ?_
 ·dsimp only [Z6c, LT.den]
  refine tB (Zaob a0.Cost) (fun x1 h2 => ?_)
  have q5 := oa0.2.1.1
  refine tB (tA Zlj (by decide)) (fun x3 h4 => ?_)
  have lh4 : x3.length = ([] : (List (List UInt8))).length + a0.Line.Subs.length := by rw [h4, List.length_append]
  try simp only [List.length_cons, List.length_nil, Nat.zero_add] at lh4
  exact tL ⟨rfl, oa0, ⟨(SzS.nil), SzL.nil, SzL.nil⟩, ⟨oa0.1, (SzL.app (k := 16) h4 lo (fun _ h => by cases h) oa0.2.1.2), SzL.nil⟩, cl, cl, cl⟩ (by unfold Zra lt6; dsimp only; omega)
 ·intro s hs
  cases s with
  | L0 E0 E1 E2 v4 =>
   obtain ⟨al0, O0, O1, O2, cv4, i0, i1⟩ := hs
   subst al0
   show Tot (Zqo E0 E1 E2 v4).den _
   dsimp only [Zqo, LT.den]
   have q1 := O0.2.2.1
   refine tD (fun h2 => ?_) (fun h2 => ?_)
   ·refine tB (tI (by omega) (by omega)) (fun x3 h4 => ?_)
    have oh4 : Zat x3 := O0.2.2.2 x3 h4.1
    refine tB (Zalr x3 oh4) (fun x5 h6 => ?_)
    have q7 : (SzL 640 Zat) ([x5] : (List Zj)) := ⟨by simp only [List.length_cons, List.length_nil]; omega, (mem_cons' h6 (fun _ h => by cases h))⟩
    have q10 := O2.2.2.1
    refine tB (tA Zc5 (by decide)) (fun x8 h9 => ?_)
    have lh9 : x8.length = E2.Abilities.length + 1 := by rw [h9, List.length_append]; rfl
    refine qw (v4 + 1) fun q11 q12 => ?_
    exact tL ⟨rfl, O0, O1, ⟨O2.1, O2.2.1, (SzL.app (k := 640) h9 lo O2.2.2.2 q7.2)⟩, cl, cl, cl⟩ (by unfold Zra lt6; dsimp only; omega)
   ·exact tR ⟨O2, cl⟩
def Zpx : Zqp → Prop
 | .L0 v0 E0 E1 v5 => ((SzL 176 Zaf) v0) ∧ (Zv E1) ∧ (∀ c, c ∈ v0 → c.Abilities.length ≤ 8) ∧ (E1.Abilities.length ≤ 8)
 | .L1 E0 E1 E2 => (Zv E1) ∧ (Zv E2) ∧ (E1.Abilities.length ≤ 8) ∧ (E2.Abilities.length ≤ 8)
def Zabc : Zqp → M6
 | .L0 v0 E0 E1 v5 => (0, 0, 0, 0, 0, 0)
 | .L1 E0 E1 E2 => (0, 0, 0, 0, 0, 0)
theorem Zm2 (E0 : Zg) (E1 : Za) (E2 : Za) (h : Zpx (.L1 E0 E1 E2)) : Tot (Zn2 E0 E1 E2).den (Nx Zpx Zabc (0, 0, 0, 0, 0, 0) (fun r => (Zv r) ∧ (r.Abilities.length ≤ 8))) := by
 obtain ⟨O1, O2, i0, i1⟩ := h
 dsimp only [Zn2, LT.den]
 refine tE (fun h1 => ?_) (fun h1 => ?_)
 ·exact tR ⟨⟨O2.1, O2.2.1, O2.2.2⟩, cl⟩
 ·refine tE (fun h2 => ?_) (fun h2 => ?_)
  ·exact tR ⟨⟨O2.1, O2.2.1, O2.2.2⟩, cl⟩
  ·exact tR ⟨⟨O2.1, O2.2.1, O2.2.2⟩, cl⟩
theorem Zur (v0 : (List Zn)) (E0 : Zg) (E1 : Za) (v5 : Int) (h : Zpx (.L0 v0 E0 E1 v5)) : Tot (Zs1 v0 E0 E1 v5).den (Nx Zpx Zabc (0, 0, 0, 0, 0, 0) (fun r => (Zv r) ∧ (r.Abilities.length ≤ 8))) := by
 obtain ⟨ov0, O1, i0, i1⟩ := h
 have lb_v0 := ov0.1
 dsimp only [Zs1, LT.den]
 refine tD (fun h1 => ?_) (fun h1 => ?_)
 ·have q2 := ov0.1
  refine tD (fun h3 => ?_) (fun h3 => ?_)
  ·refine tB (tI (by omega) (by omega)) (fun x4 h5 => ?_)
   have oh5 : Zaf x4 := ov0.2 x4 h5.1
   have mh5 := i0 x4 h5.1
   refine tB (Zalt x4 oh5) (fun x6 h7 => ?_)
   have eh7_1 := h7.2
   exact tJ (Zm2 E0 E1 x6 ⟨O1, h7.1, cl, cl⟩)
  ·exact tJ (Zm2 E0 E1 (⟨([] : List UInt8), (⟨0, 0, (⟨0, 0, 0, 0, 0⟩ : (A5 Int))⟩ : Zp), 0, (⟨0, 0, ([] : (List (List UInt8)))⟩ : Zs), 0, 0, 0, ([] : (List Zj)), 0⟩ : Za) ⟨O1, ⟨(SzS.nil), SzL.nil, SzL.nil⟩, cl, cl⟩)
 ·exact tJ (Zm2 E0 E1 (⟨([] : List UInt8), (⟨0, 0, (⟨0, 0, 0, 0, 0⟩ : (A5 Int))⟩ : Zp), 0, (⟨0, 0, ([] : (List (List UInt8)))⟩ : Zs), 0, 0, 0, ([] : (List Zj)), 0⟩ : Za) ⟨O1, ⟨(SzS.nil), SzL.nil, SzL.nil⟩, cl, cl⟩)
theorem Zalu (a0 : (List Zn)) (a1 : Zg) (oa0 : (SzL 176 Zaf) a0) (h0 : ∀ c, c ∈ a0 → c.Abilities.length ≤ 8) : Tot (Zakr a0 a1) (fun r => (Zv r) ∧ (r.Abilities.length ≤ 8)) := by
 unfold Zakr
 refine tX (Inv := Zpx) (μ := Zabc) (m := (1000000, 0, 0, 0, 0, 0)) ?_ ?_
 ·have lb_a0 := oa0.1
  dsimp only [Zavd, LT.den]
  refine tD (fun h1 => ?_) (fun h1 => ?_)
  ·exact tJ (Zur a0 a1 (⟨([] : List UInt8), (⟨0, 0, (⟨0, 0, 0, 0, 0⟩ : (A5 Int))⟩ : Zp), 0, (⟨0, 0, ([] : (List (List UInt8)))⟩ : Zs), 0, 0, 0, ([] : (List Zj)), 0⟩ : Za) a1.Card ⟨oa0, ⟨(SzS.nil), SzL.nil, SzL.nil⟩, Zau, cl⟩)
  ·exact tJ (Zur a0 a1 (⟨([] : List UInt8), (⟨0, 0, (⟨0, 0, 0, 0, 0⟩ : (A5 Int))⟩ : Zp), 0, (⟨0, 0, ([] : (List (List UInt8)))⟩ : Zs), 0, 0, 0, ([] : (List Zj)), 0⟩ : Za) a1.Copy ⟨oa0, ⟨(SzS.nil), SzL.nil, SzL.nil⟩, Zau, cl⟩)
 ·intro s hs
  cases s with
  | L0 v0 E0 E1 v5 => exact Zur v0 E0 E1 v5 hs
  | L1 E0 E1 E2 => exact Zm2 E0 E1 E2 hs
def Zaoc (a0 : (List Zn)) (a1 : Zb) : Zgy → Prop
 | .L0 v0 E0 v5 v6 => (E0 = a1) ∧ ((SzL 176 Zaf) v0) ∧ (Zq E0) ∧ ((SzL 224 Z7) v5) ∧ (0 ≤ v6) ∧ (∀ c, c ∈ v0 → c.Abilities.length ≤ 8) ∧ (E0.Objects.length ≤ 60) ∧ (E0.Conts.length ≤ 8) ∧ (v5.length ≤ 8 * v6.toNat) ∧ (v6.toNat ≤ E0.Objects.length)
 | .L1 v0 E0 v5 v6 E1 E2 v9 => (E0 = a1) ∧ ((SzL 176 Zaf) v0) ∧ (Zq E0) ∧ ((SzL 224 Z7) v5) ∧ (Zv E2) ∧ (0 ≤ v9) ∧ (0 ≤ v6) ∧ (v6 < (E0.Objects.length : Int)) ∧ (∀ c, c ∈ v0 → c.Abilities.length ≤ 8) ∧ (E0.Objects.length ≤ 60) ∧ (E0.Conts.length ≤ 8) ∧ (E2.Abilities.length ≤ 8) ∧ (v5.length ≤ 8 * v6.toNat + v9.toNat) ∧ (v9.toNat ≤ E2.Abilities.length)
 | .L2 E0 v5 v11 => (E0 = a1) ∧ (Zq E0) ∧ ((SzL 224 Z7) v5) ∧ (0 ≤ v11) ∧ (E0.Conts.length ≤ 8) ∧ (v5.length ≤ 480 + v11.toNat) ∧ (v11.toNat ≤ E0.Conts.length)
def Z65 : Zgy → M6
 | .L0 v0 E0 v5 v6 => (3, ((E0.Objects.length : Int) - v6).toNat, 1000000, 0, 0, 0)
 | .L1 v0 E0 v5 v6 E1 E2 v9 => (3, ((E0.Objects.length : Int) - v6).toNat, 1, ((E2.Abilities.length : Int) - v9).toNat, 1000000, 0)
 | .L2 E0 v5 v11 => (1, ((E0.Conts.length : Int) - v11).toNat, 1000000, 0, 0, 0)
theorem Zaod (a0 : (List Zn)) (a1 : Zb) (oa0 : (SzL 176 Zaf) a0) (oa1 : Zq a1) (h0 : ∀ c, c ∈ a0 → c.Abilities.length ≤ 8) (h1 : a1.Objects.length ≤ 60) (h2 : a1.Conts.length ≤ 8) : Tot (Zu7 a0 a1) (fun r => ((SzL 224 Z7) r) ∧ (r.length ≤ 10000)) := by
 unfold Zu7
 refine tX (Inv := (Zaoc a0 a1)) (μ := Z65) (m := (1000000, 0, 0, 0, 0, 0)) ?_ ?_
 ·have lb_a0 := oa0.1
  dsimp only [Z9p, LT.den]
  exact tL ⟨rfl, oa0, oa1, SzL.nil, cl, Zau, cl, cl, cl, cl⟩ tk78
 ·intro s hs
  cases s with
  | L0 v0 E0 v5 v6 =>
   obtain ⟨al0, ov0, O0, ov5, cv6, i0, i1, i2, i3, i4⟩ := hs
   have lb_v0 := ov0.1
   have lb_v5 := ov5.1
   subst al0
   show Tot (Ztp v0 E0 v5 v6).den _
   dsimp only [Ztp, LT.den]
   have q1 := O0.2.1.1
   refine tD (fun h2 => ?_) (fun h2 => ?_)
   ·refine tB (tI (by omega) (by omega)) (fun x3 h4 => ?_)
    refine tN (fun h5 => ?_) (fun h5 => ?_)
    ·refine qw (v6 + 1) fun q6 q7 => ?_
     exact tL ⟨rfl, ov0, O0, ov5, cl, Zau, cl, cl, cl, cl⟩ tk78
    ·refine tB (Zalu v0 x3 ov0 Zau) (fun x8 h9 => ?_)
     have eh9_1 := h9.2
     exact tL ⟨rfl, ov0, O0, ov5, h9.1, cl, cl, cl, Zau, cl, cl, cl, cl, cl⟩ tk78
   ·exact tL ⟨rfl, O0, ov5, cl, cl, cl, cl⟩ tk78
  | L1 v0 E0 v5 v6 E1 E2 v9 =>
   obtain ⟨al0, ov0, O0, ov5, O2, cv9, cv6, bd7, i0, i1, i2, i3, i4, i5⟩ := hs
   have lb_v0 := ov0.1
   have lb_v5 := ov5.1
   subst al0
   show Tot (Ztq v0 E0 v5 v6 E1 E2 v9).den _
   dsimp only [Ztq, LT.den]
   have lx_0 : E0.Objects.length * 128 ≤ 140737488351232 := O0.2.1.1
   have q1 := O2.2.2.1
   refine tD (fun h2 => ?_) (fun h2 => ?_)
   ·refine tB (tI (by omega) (by omega)) (fun x3 h4 => ?_)
    have oh4 : Zat x3 := O2.2.2.2 x3 h4.1
    refine tE (fun h5 => ?_) (fun h5 => ?_)
    ·have q6 : (SzL 224 Z7) ([(⟨E1.Id, v9, E1.Control, E1.Stamp, false, ([] : (List Int)), x3.Filter, x3.Mods⟩ : Zl)] : (List Zl)) := ⟨by simp only [List.length_cons, List.length_nil]; omega, (mem_cons' ⟨SzL.nil, oh4.1, oh4.2.1⟩ (fun _ h => by cases h))⟩
     have q9 := ov5.1
     refine tB (tA Zc5 (by decide)) (fun x7 h8 => ?_)
     have lh8 : x7.length = v5.length + 1 := by rw [h8, List.length_append]; rfl
     refine qw (v9 + 1) fun q10 q11 => ?_
     exact tL ⟨rfl, ov0, O0, (SzL.app (k := 224) h8 lo ov5.2 q6.2), O2, cl, cl, cl, Zau, cl, cl, cl, cl, cl⟩ tk78
    ·refine qw (v9 + 1) fun q12 q13 => ?_
     exact tL ⟨rfl, ov0, O0, ov5, O2, cl, cl, cl, Zau, cl, cl, cl, cl, cl⟩ tk78
   ·refine qw (v6 + 1) fun q14 q15 => ?_
    exact tL ⟨rfl, ov0, O0, ov5, cl, Zau, cl, cl, cl, cl⟩ tk78
  | L2 E0 v5 v11 =>
   obtain ⟨al0, O0, ov5, cv11, i0, i1, i2⟩ := hs
   have lb_v5 := ov5.1
   subst al0
   show Tot (Ztr E0 v5 v11).den _
   dsimp only [Ztr, LT.den]
   have q1 := O0.2.2.2.2.2.2.1.1
   refine tD (fun h2 => ?_) (fun h2 => ?_)
   ·refine tB (tI (by omega) (by omega)) (fun x3 h4 => ?_)
    have oh4 : Zru x3 := O0.2.2.2.2.2.2.1.2 x3 h4.1
    have q5 : (SzL 224 Z7) ([(⟨x3.Source, (-1), x3.Control, x3.Stamp, true, x3.Objects, (⟨0, 0, 0, 0, 0, 0, 0, ([] : List UInt8), 0, 0, (⟨0, 0⟩ : Zd), (⟨0, 0⟩ : Zd), (⟨0, 0⟩ : Zd)⟩ : Ze), x3.Mods⟩ : Zl)] : (List Zl)) := ⟨by simp only [List.length_cons, List.length_nil]; omega, (mem_cons' ⟨oh4.1, (SzS.nil), oh4.2⟩ (fun _ h => by cases h))⟩
    have q8 := ov5.1
    refine tB (tA Zc5 (by decide)) (fun x6 h7 => ?_)
    have lh7 : x6.length = v5.length + 1 := by rw [h7, List.length_append]; rfl
    refine qw (v11 + 1) fun q9 q10 => ?_
    exact tL ⟨rfl, O0, (SzL.app (k := 224) h7 lo ov5.2 q5.2), cl, cl, cl, cl⟩ tk78
   ·exact tR ⟨ov5, cl⟩
abbrev Zaoe (a0 : (List Zn)) (a1 : Zb) (r : Zc) : Prop := (Zw r) ∧ (r.S.Objects.length = a1.Objects.length) ∧ (r.L.length ≤ 10000) ∧ (r.All.length = r.S.Objects.length) ∧ (r.Blank.length = r.S.Objects.length) ∧ (r.Begun.length = r.L.length) ∧ (r.Sets.length = r.L.length)
def Zarg (a0 : (List Zn)) (a1 : Zb) : Zmb → Prop
 | .L0 v0 E0 E1 E2 v6 => (E0 = a1) ∧ ((SzL 176 Zaf) v0) ∧ (Zq E0) ∧ (Zw E1) ∧ (Zw E2) ∧ (0 ≤ v6) ∧ (∀ c, c ∈ v0 → c.Abilities.length ≤ 8) ∧ (E2.S.Objects.length = E0.Objects.length) ∧ (E2.L.length ≤ 10000) ∧ (E2.All.length = v6.toNat) ∧ (v6.toNat ≤ E0.Objects.length) ∧ (E0.Objects.length ≤ 60)
def Zx9 : Zmb → M6
 | .L0 v0 E0 E1 E2 v6 => (1, ((E0.Objects.length : Int) - v6).toNat, 1000000, 0, 0, 0)
theorem Zarh (a0 : (List Zn)) (a1 : Zb) (oa0 : (SzL 176 Zaf) a0) (oa1 : Zq a1) (h0 : ∀ c, c ∈ a0 → c.Abilities.length ≤ 8) (h1 : a1.Objects.length ≤ 60) (h2 : a1.Conts.length ≤ 8) : Tot (Z9r a0 a1) (Zaoe a0 a1) := by
 unfold Z9r
 refine tX (Inv := (Zarg a0 a1)) (μ := Zx9) (m := (1000000, 0, 0, 0, 0, 0)) ?_ ?_
 ·have lb_a0 := oa0.1
  dsimp only [Zad2, LT.den]
  refine tB (Zaod a0 a1 oa0 oa1 Zau cl cl) (fun x1 h2 => ?_)
  have eh2_1 := h2.2
  exact tL ⟨rfl, oa0, oa1, ⟨⟨SzL.nil, SzL.nil, SzL.nil, SzL.nil, SzL.nil, SzL.nil, SzL.nil, SzL.nil⟩, SzL.nil, SzL.nil, SzL.nil, SzL.nil, SzL.nil⟩, ⟨oa1, SzL.nil, h2.1, SzL.nil, SzL.nil, SzL.nil⟩, cl, Zau, cl, cl, cl, cl, cl⟩ (by unfold Zx9 lt6; dsimp only; omega)
 ·intro s hs
  cases s with
  | L0 v0 E0 E1 E2 v6 =>
   obtain ⟨al0, ov0, O0, O1, O2, cv6, i0, i1, i2, i3, i4, i5⟩ := hs
   have lb_v0 := ov0.1
   subst al0
   show Tot (Zxb v0 E0 E1 E2 v6).den _
   dsimp only [Zxb, LT.den]
   have q1 := O0.2.1.1
   refine tD (fun h2 => ?_) (fun h2 => ?_)
   ·refine tB (tI (by omega) (by omega)) (fun x3 h4 => ?_)
    refine tB (Zalu v0 x3 ov0 Zau) (fun x5 h6 => ?_)
    have eh6_1 := h6.2
    have q7 : (SzL 176 Zv) ([x5] : (List Za)) := ⟨by simp only [List.length_cons, List.length_nil]; omega, (mem_cons' h6.1 (fun _ h => by cases h))⟩
    have q10 := O2.2.1.1
    refine tB (tA Zc5 (by decide)) (fun x8 h9 => ?_)
    have lh9 : x8.length = E2.All.length + 1 := by rw [h9, List.length_append]; rfl
    refine qw (v6 + 1) fun q11 q12 => ?_
    exact tL ⟨rfl, ov0, O0, O1, ⟨O2.1, (SzL.app (k := 176) h9 lo O2.2.1.2 q7.2), O2.2.2.1, O2.2.2.2.1, O2.2.2.2.2.1, O2.2.2.2.2.2⟩, cl, Zau, cl, cl, cl, cl, cl⟩ (by unfold Zx9 lt6; dsimp only; omega)
   ·have q13 := O2.2.2.1.1
    refine tB (Tot.make ⟨by omega, by omega, by omega, by omega⟩) (fun x14 h15 => ?_)
    have lh15 := h15.1
    refine tB (Tot.make ⟨by omega, by omega, by omega, by omega⟩) (fun x16 h17 => ?_)
    have lh17 := h17.1
    refine tB (Tot.make ⟨by omega, by omega, by omega, by omega⟩) (fun x18 h19 => ?_)
    have lh19 := h19.1
    exact tR ⟨⟨O2.1, O2.2.1, O2.2.2.1, ⟨lo, fun _ _ => trivial⟩, ⟨lo, fun e he => by rw [h17.2 e he]; exact SzL.nil⟩, ⟨lo, fun _ _ => trivial⟩⟩, cl, cl, cl, cl, cl, cl⟩
theorem Zc6 (a0 : Int) : Tot (Zs2 a0) (fun r => (r = clV a0)) := by
 unfold Zs2
 refine tZ ?_
 dsimp only [Z06, LT.den]
 refine tD (fun h1 => ?_) (fun h1 => ?_)
 ·exact tR (by unfold clV Z7q Zte; grind)
 ·refine tD (fun h2 => ?_) (fun h2 => ?_)
  ·exact tR (by unfold clV Z7q Zte; grind)
  ·exact tR (by unfold clV Z7q Zte; grind)
theorem Zax9 (a0 : Int) (a1 : Int) : Tot (Zanb a0 a1) (fun r => True) := by
 unfold Zanb
 refine tZ ?_
 dsimp only [Zapi, LT.den]
 refine tB (Zc6 a0) (fun x1 h2 => ?_)
 have eh2_0 := h2
 refine tB (Zc6 a1) (fun x3 h4 => ?_)
 have eh4_0 := h4
 refine qw (x1 - x3) fun q5 q6 => ?_
 refine tB (Zc6 (IntKind.wrap .i64 (x1 - x3))) (fun x7 h8 => ?_)
 have eh8_0 := h8
 exact tR trivial
theorem Zari (a0 : (A3 Int)) : Tot (Z9s a0) (fun r => True) := by
 unfold Z9s
 refine tZ ?_
 dsimp only [Zad5, LT.den]
 refine tB (tI (by omega) (by have e : (A3.list a0).length = 3 := rfl; omega)) (fun x1 h2 => ?_)
 refine tB (tI (by omega) (by have e : (A3.list a0).length = 3 := rfl; omega)) (fun x3 h4 => ?_)
 refine tB (Zax9 x1 x3) (fun x5 h6 => ?_)
 exact tR trivial
theorem Zht (a0 : Int) (a1 : Int) : Tot (Z24 a0 a1) (fun r => True) := by
 unfold Z24
 refine tZ ?_
 dsimp only [Z9t, LT.den]
 refine tB (Zc6 a0) (fun x1 h2 => ?_)
 have eh2_0 := h2
 refine tB (Zc6 a1) (fun x3 h4 => ?_)
 have eh4_0 := h4
 refine qw (x1 + x3) fun q5 q6 => ?_
 refine tB (Zc6 (IntKind.wrap .i64 (x1 + x3))) (fun x7 h8 => ?_)
 have eh8_0 := h8
 exact tR trivial
abbrev Zahb (a0 : Zc) (r : Zc) : Prop := (Zw r) ∧ (r.S.Objects.length = a0.S.Objects.length) ∧ (r.L.length = a0.L.length) ∧ (r.All.length = r.S.Objects.length) ∧ (r.Blank.length = r.S.Objects.length) ∧ (r.Begun.length = r.L.length) ∧ (r.Sets.length = r.L.length)
def Zalv (a0 : Zc) : Zjb → Prop
 | .L0 E0 E1 E2 v4 => (E0 = a0) ∧ (Zw E0) ∧ (Zw E1) ∧ (Zw E2) ∧ (0 ≤ v4) ∧ (E2.S.Objects.length = E0.S.Objects.length) ∧ (E2.L.length = E0.L.length) ∧ (E2.Begun.length = E0.Begun.length) ∧ (E2.Sets.length = E0.Sets.length) ∧ (E2.Blank.length = E0.Blank.length) ∧ (E2.All.length = v4.toNat) ∧ (v4.toNat ≤ E0.All.length) ∧ (E0.All.length = E0.S.Objects.length) ∧ (E0.Blank.length = E0.S.Objects.length) ∧ (E0.Begun.length = E0.L.length) ∧ (E0.Sets.length = E0.L.length) ∧ (E0.S.Objects.length ≤ 60) ∧ (E0.L.length ≤ 10000)
def Z3m : Zjb → M6
 | .L0 E0 E1 E2 v4 => (1, ((E0.All.length : Int) - v4).toNat, 1000000, 0, 0, 0)
theorem Zalw (a0 : Zc) (oa0 : Zw a0) (h0 : a0.All.length = a0.S.Objects.length) (h1 : a0.Blank.length = a0.S.Objects.length) (h2 : a0.Begun.length = a0.L.length) (h3 : a0.Sets.length = a0.L.length) (h4 : a0.S.Objects.length ≤ 60) (h5 : a0.L.length ≤ 10000) : Tot (Z07 a0) (Zahb a0) := by
 unfold Z07
 refine tX (Inv := (Zalv a0)) (μ := Z3m) (m := (1000000, 0, 0, 0, 0, 0)) ?_ ?_
 ·dsimp only [Z6e, LT.den]
  exact tL ⟨rfl, oa0, ⟨⟨SzL.nil, SzL.nil, SzL.nil, SzL.nil, SzL.nil, SzL.nil, SzL.nil, SzL.nil⟩, SzL.nil, SzL.nil, SzL.nil, SzL.nil, SzL.nil⟩, ⟨oa0.1, SzL.nil, oa0.2.2.1, oa0.2.2.2.1, oa0.2.2.2.2.1, oa0.2.2.2.2.2⟩, cl, cl, cl, cl, cl, cl, cl, cl, cl, cl, cl, cl, cl, cl⟩ tk68
 ·intro s hs
  cases s with
  | L0 E0 E1 E2 v4 =>
   obtain ⟨al0, O0, O1, O2, cv4, i0, i1, i2, i3, i4, i5, i6, i7, i8, i9, i10, i11, i12⟩ := hs
   subst al0
   show Tot (Zqq E0 E1 E2 v4).den _
   dsimp only [Zqq, LT.den]
   have q1 := O0.2.1.1
   refine tD (fun h2 => ?_) (fun h2 => ?_)
   ·refine tB (tI (by omega) (by omega)) (fun x3 h4 => ?_)
    have oh4 : Zv x3 := O0.2.1.2 x3 h4.1
    refine tB (tI (by omega) (by omega)) (fun x5 h6 => ?_)
    refine tE (fun h7 => ?_) (fun h7 => ?_)
    ·refine tE (fun h8 => ?_) (fun h8 => ?_)
     ·refine tB (Zari x5.Counters) (fun x9 h10 => ?_)
      refine tB (Zht x3.Power x9) (fun x11 h12 => ?_)
      refine tB (Zht x3.Tough x9) (fun x13 h14 => ?_)
      have q15 : (SzL 176 Zv) ([(⟨x3.Name, x3.Cost, x3.Colors, x3.Line, x11, x13, x3.Keys, x3.Abilities, x3.Control⟩ : Za)] : (List Za)) := ⟨by simp only [List.length_cons, List.length_nil]; omega, (mem_cons' ⟨oh4.1, oh4.2.1, oh4.2.2⟩ (fun _ h => by cases h))⟩
      have q18 := O2.2.1.1
      refine tB (tA Zc5 (by decide)) (fun x16 h17 => ?_)
      have lh17 : x16.length = E2.All.length + 1 := by rw [h17, List.length_append]; rfl
      refine qw (v4 + 1) fun q19 q20 => ?_
      exact tL ⟨rfl, O0, O1, ⟨O2.1, (SzL.app (k := 176) h17 lo O2.2.1.2 q15.2), O2.2.2.1, O2.2.2.2.1, O2.2.2.2.2.1, O2.2.2.2.2.2⟩, cl, cl, cl, cl, cl, cl, cl, cl, cl, cl, cl, cl, cl, cl⟩ tk68
     ·have q21 : (SzL 176 Zv) ([x3] : (List Za)) := ⟨by simp only [List.length_cons, List.length_nil]; omega, (mem_cons' oh4 (fun _ h => by cases h))⟩
      have q24 := O2.2.1.1
      refine tB (tA Zc5 (by decide)) (fun x22 h23 => ?_)
      have lh23 : x22.length = E2.All.length + 1 := by rw [h23, List.length_append]; rfl
      refine qw (v4 + 1) fun q25 q26 => ?_
      exact tL ⟨rfl, O0, O1, ⟨O2.1, (SzL.app (k := 176) h23 lo O2.2.1.2 q21.2), O2.2.2.1, O2.2.2.2.1, O2.2.2.2.2.1, O2.2.2.2.2.2⟩, cl, cl, cl, cl, cl, cl, cl, cl, cl, cl, cl, cl, cl, cl⟩ tk68
    ·have q27 : (SzL 176 Zv) ([x3] : (List Za)) := ⟨by simp only [List.length_cons, List.length_nil]; omega, (mem_cons' oh4 (fun _ h => by cases h))⟩
     have q30 := O2.2.1.1
     refine tB (tA Zc5 (by decide)) (fun x28 h29 => ?_)
     have lh29 : x28.length = E2.All.length + 1 := by rw [h29, List.length_append]; rfl
     refine qw (v4 + 1) fun q31 q32 => ?_
     exact tL ⟨rfl, O0, O1, ⟨O2.1, (SzL.app (k := 176) h29 lo O2.2.1.2 q27.2), O2.2.2.1, O2.2.2.2.1, O2.2.2.2.2.1, O2.2.2.2.2.2⟩, cl, cl, cl, cl, cl, cl, cl, cl, cl, cl, cl, cl, cl, cl⟩ tk68
   ·exact tR ⟨O2, cl, cl, cl, cl, cl, cl⟩
def Zm3 : Zhr → Prop
 | .L0 v3 v6 => True
 | .L1 v3 v11 => True
 | .L2 v3 v14 => True
def Zpy : Zhr → M6
 | .L0 v3 v6 => (0, 0, 0, 0, 0, 0)
 | .L1 v3 v11 => (0, 0, 0, 0, 0, 0)
 | .L2 v3 v14 => (0, 0, 0, 0, 0, 0)
theorem Ziz (v3 : Int) (v14 : Bool) (h : True) : Tot (Zh7 v3 v14).den (Nx Zm3 Zpy (0, 0, 0, 0, 0, 0) (fun r => True)) := by
 dsimp only [Zh7, LT.den]
 refine tF (fun h1 => ?_) (fun h1 => ?_)
 ·exact tR trivial
 ·refine tE (fun h2 => ?_) (fun h2 => ?_)
  ·exact tR trivial
  ·refine tE (fun h3 => ?_) (fun h3 => ?_)
   ·exact tR trivial
   ·refine tE (fun h4 => ?_) (fun h4 => ?_)
    ·exact tR trivial
    ·refine tE (fun h5 => ?_) (fun h5 => ?_)
     ·exact tR trivial
     ·exact tR trivial
theorem Znk (v3 : Int) (v11 : Bool) (h : True) : Tot (Zkl v3 v11).den (Nx Zm3 Zpy (0, 0, 0, 0, 0, 0) (fun r => True)) := by
 dsimp only [Zkl, LT.den]
 refine tF (fun h1 => ?_) (fun h1 => ?_)
 ·exact tR trivial
 ·refine tE (fun h2 => ?_) (fun h2 => ?_)
  ·exact tJ (Ziz v3 (v3 == 8) trivial)
  ·refine tE (fun h3 => ?_) (fun h3 => ?_)
   ·exact tJ (Ziz v3 (v3 == 9) trivial)
   ·exact tJ (Ziz v3 (v3 == 10) trivial)
theorem Zg3 (v3 : Int) (v6 : Bool) (h : True) : Tot (Zgz v3 v6).den (Nx Zm3 Zpy (0, 0, 0, 0, 0, 0) (fun r => True)) := by
 dsimp only [Zgz, LT.den]
 refine tF (fun h1 => ?_) (fun h1 => ?_)
 ·exact tR trivial
 ·refine tE (fun h2 => ?_) (fun h2 => ?_)
  ·exact tJ (Znk v3 (v3 == 6) trivial)
  ·exact tJ (Znk v3 (v3 == 7) trivial)
theorem Zaof (a0 : Int) : Tot (Zb3 a0) (fun r => True) := by
 unfold Zb3
 refine tX (Inv := Zm3) (μ := Zpy) (m := (1000000, 0, 0, 0, 0, 0)) ?_ ?_
 ·dsimp only [Zad7, LT.den]
  refine tE (fun h1 => ?_) (fun h1 => ?_)
  ·exact tR trivial
  ·refine tE (fun h2 => ?_) (fun h2 => ?_)
   ·exact tJ (Zg3 a0 (a0 == 2) trivial)
   ·refine tE (fun h3 => ?_) (fun h3 => ?_)
    ·exact tJ (Zg3 a0 (a0 == 3) trivial)
    ·refine tE (fun h4 => ?_) (fun h4 => ?_)
     ·exact tJ (Zg3 a0 (a0 == 4) trivial)
     ·exact tJ (Zg3 a0 (a0 == 5) trivial)
 ·intro s hs
  cases s with
  | L0 v3 v6 => exact Zg3 v3 v6 hs
  | L1 v3 v11 => exact Znk v3 v11 hs
  | L2 v3 v14 => exact Ziz v3 v14 hs
theorem Zm4 (a0 : Int) : Tot (Zb3 a0) (fun r => r = (Zb3 a0).getD 0) := (Tot.we (Zaof a0)).mono fun r h => by rw [h.2]; rfl
def Zalx : Zjc → Prop
 | .L0 v1 E0 v5 => (Z7 E0) ∧ (0 ≤ v5)
def Zrb : Zjc → M6
 | .L0 v1 E0 v5 => (1, ((E0.Mods.length : Int) - v5).toNat, 1000000, 0, 0, 0)
theorem Zaly (a0 : Zl) (a1 : Int) (oa0 : Z7 a0) : Tot (Z08 a0 a1) (fun r => True) := by
 unfold Z08
 refine tX (Inv := Zalx) (μ := Zrb) (m := (1000000, 0, 0, 0, 0, 0)) ?_ ?_
 ·dsimp only [Z6g, LT.den]
  exact tL ⟨oa0, cl⟩ (by unfold Zrb lt6; dsimp only; omega)
 ·intro s hs
  cases s with
  | L0 v1 E0 v5 =>
   obtain ⟨O0, cv5⟩ := hs
   show Tot (Zqr v1 E0 v5).den _
   dsimp only [Zqr, LT.den]
   have q1 := O0.2.2.1
   refine tD (fun h2 => ?_) (fun h2 => ?_)
   ·refine tB (tI (by omega) (by omega)) (fun x3 h4 => ?_)
    have oh4 : Zar x3 := O0.2.2.2 x3 h4.1
    refine tB (Zm4 x3.Kind) (fun x5 h6 => ?_)
    have eh6_0 := h6
    refine tE (fun h7 => ?_) (fun h7 => ?_)
    ·exact tR trivial
    ·refine qw (v5 + 1) fun q8 q9 => ?_
     exact tL ⟨O0, cl⟩ (by unfold Zrb lt6; dsimp only; omega)
   ·exact tR trivial
def Zarj (a0 : Zb) (a1 : Int) : Zmc → Prop
 | .L0 v1 E0 v5 => (E0 = a0) ∧ (Zq E0) ∧ (0 ≤ v5)
def Zya : Zmc → M6
 | .L0 v1 E0 v5 => (1, ((E0.Objects.length : Int) - v5).toNat, 1000000, 0, 0, 0)
theorem Z66 (a0 : Zb) (a1 : Int) (oa0 : Zq a0) : Tot (Z9u a0 a1) (fun r => (-1 ≤ r) ∧ (r < a0.Objects.length)) := by
 unfold Z9u
 refine tX (Inv := (Zarj a0 a1)) (μ := Zya) (m := (1000000, 0, 0, 0, 0, 0)) ?_ ?_
 ·dsimp only [Zad9, LT.den]
  exact tL ⟨rfl, oa0, cl⟩ (by unfold Zya lt6; dsimp only; omega)
 ·intro s hs
  cases s with
  | L0 v1 E0 v5 =>
   obtain ⟨al0, O0, cv5⟩ := hs
   subst al0
   show Tot (Zxc v1 E0 v5).den _
   dsimp only [Zxc, LT.den]
   have q1 := O0.2.1.1
   refine tD (fun h2 => ?_) (fun h2 => ?_)
   ·refine tB (tI (by omega) (by omega)) (fun x3 h4 => ?_)
    refine tE (fun h5 => ?_) (fun h5 => ?_)
    ·exact tR ⟨cl, cl⟩
    ·refine qw (v5 + 1) fun q6 q7 => ?_
     exact tL ⟨rfl, O0, cl⟩ (by unfold Zya lt6; dsimp only; omega)
   ·exact tR ⟨cl, cl⟩
theorem Zk8 (a0 : Zc) (a1 : Int) (oa0 : Zw a0) (h0 : a0.All.length = a0.S.Objects.length) (h1 : a0.Blank.length = a0.S.Objects.length) (h2 : a0.Begun.length = a0.L.length) (h3 : a0.Sets.length = a0.L.length) (h4 : a0.S.Objects.length ≤ 60) (h5 : a0.L.length ≤ 10000) (h6 : 0 ≤ a1) (h7 : a1 < a0.L.length) : Tot (Z4t a0 a1) (fun r => True) := by
 unfold Z4t
 refine tZ ?_
 dsimp only [Z9w, LT.den]
 refine tB (tI (by omega) (by omega)) (fun x1 h2 => ?_)
 have oh2 : Z7 x1 := oa0.2.2.1.2 x1 h2.1
 refine tF (fun h3 => ?_) (fun h3 => ?_)
 ·exact tR trivial
 ·refine tB (tI (by omega) (by omega)) (fun x4 h5 => ?_)
  refine tF (fun h6 => ?_) (fun h6 => ?_)
  ·exact tR trivial
  ·refine tB (Z66 a0.S x1.Source oa0.1) (fun x7 h8 => ?_)
   have eh8_0 := h8.1
   have eh8_1 := h8.2
   refine tD (fun h9 => ?_) (fun h9 => ?_)
   ·exact tR trivial
   ·refine tB (tI (by omega) (by omega)) (fun x10 h11 => ?_)
    exact tR trivial
def Zark (a0 : (List Int)) (a1 : Int) : Zmd → Prop
 | .L0 v0 v1 v5 => (v0 = a0) ∧ (v1 = a1) ∧ ((SzL 8 (fun _ => True)) v0) ∧ (0 ≤ v5) ∧ (∀ (k : Nat) x, (k : Int) < v5 → v0[k]? = some x → x ≠ v1)
def Zyb : Zmd → M6
 | .L0 v0 v1 v5 => (1, ((v0.length : Int) - v5).toNat, 1000000, 0, 0, 0)
theorem Zarl (a0 : (List Int)) (a1 : Int) (oa0 : (SzL 8 (fun _ => True)) a0) : Tot (Z9y a0 a1) (fun r => (0 ≤ r ↔ a1 ∈ a0)) := by
 unfold Z9y
 refine tX (Inv := (Zark a0 a1)) (μ := Zyb) (m := (1000000, 0, 0, 0, 0, 0)) ?_ ?_
 ·have lb_a0 := oa0.1
  dsimp only [Zaeb, LT.den]
  exact tL ⟨rfl, rfl, oa0, cl, tk25⟩ (by unfold Zyb lt6; dsimp only; omega)
 ·intro s hs
  cases s with
  | L0 v0 v1 v5 =>
   obtain ⟨al0, al1, ov0, cv5, i0⟩ := hs
   have lb_v0 := ov0.1
   subst al0
   subst al1
   show Tot (Zxd v0 v1 v5).den _
   dsimp only [Zxd, LT.den]
   have q1 := ov0.1
   refine tD (fun h2 => ?_) (fun h2 => ?_)
   ·refine tB (tI (by omega) (by omega)) (fun x3 h4 => ?_)
    have mh4 := h4.2
    refine tE (fun h5 => ?_) (fun h5 => ?_)
    ·exact tR Zar9
    ·refine qw (v5 + 1) fun q6 q7 => ?_
     exact tL ⟨rfl, rfl, ov0, cl, tk25⟩ (by unfold Zyb lt6; dsimp only; omega)
   ·exact tR Zar9
theorem Zae1 (a0 : (List Int)) (a1 : Int) (oa0 : (SzL 8 (fun _ => True)) a0) : Tot (Zand a0 a1) (fun r => (r = true ↔ a1 ∈ a0)) := by
 unfold Zand
 refine tZ ?_
 have lb_a0 := oa0.1
 dsimp only [Zapl, LT.den]
 refine tB (Zarl a0 a1 oa0) (fun x1 h2 => ?_)
 have eh2_0 := h2
 exact tR (by grind)
theorem Zrv (a0 : Zc) (a1 : Int) (oa0 : Zw a0) (h0 : a0.All.length = a0.S.Objects.length) (h1 : a0.Blank.length = a0.S.Objects.length) (h2 : a0.Begun.length = a0.L.length) (h3 : a0.Sets.length = a0.L.length) (h4 : a0.S.Objects.length ≤ 60) (h5 : a0.L.length ≤ 10000) (h6 : 0 ≤ a1) (h7 : a1 < a0.L.length) : Tot (Zane a0 a1) (fun r => True) := by
 unfold Zane
 refine tZ ?_
 dsimp only [Zapn, LT.den]
 refine tB (tI (by omega) (by omega)) (fun x1 h2 => ?_)
 have oh2 : Z7 x1 := oa0.2.2.1.2 x1 h2.1
 refine tB (Z66 a0.S x1.Source oa0.1) (fun x3 h4 => ?_)
 have eh4_0 := h4.1
 have eh4_1 := h4.2
 refine tF (fun h5 => ?_) (fun h5 => ?_)
 ·exact tR trivial
 ·refine tD (fun h6 => ?_) (fun h6 => ?_)
  ·exact tR trivial
  ·refine tB (tI (by omega) (by omega)) (fun x7 h8 => ?_)
   have oh8 : Zv x7 := oa0.2.1.2 x7 h8.1
   exact tR trivial
theorem Zaya (a0 : Int) (a1 : Int) (a2 : Int) : Tot (Z25 a0 a1 a2) (fun r => True) := by
 unfold Z25
 refine tZ ?_
 dsimp only [Z9z, LT.den]
 refine tE (fun h1 => ?_) (fun h1 => ?_)
 ·exact tR trivial
 ·refine tN (fun h2 => ?_) (fun h2 => ?_)
  ·exact tR trivial
  ·exact tR trivial
theorem Zawt (a0 : Int) (a1 : Int) (a2 : Int) : Tot (Zxe a0 a1 a2) (fun r => True) := by
 unfold Zxe
 refine tZ ?_
 dsimp only [Z4u, LT.den]
 refine tE (fun h1 => ?_) (fun h1 => ?_)
 ·exact tR trivial
 ·refine tN (fun h2 => ?_) (fun h2 => ?_)
  ·exact tR trivial
  ·exact tR trivial
theorem Zayb (a0 : Bool) (a1 : Int) : Tot (Z26 a0 a1) (fun r => True) := by
 unfold Z26
 refine tZ ?_
 dsimp only [Z90, LT.den]
 refine tE (fun h1 => ?_) (fun h1 => ?_)
 ·exact tR trivial
 ·refine tN (fun h2 => ?_) (fun h2 => ?_)
  ·exact tR trivial
  ·exact tR trivial
theorem Zeu (a0 : Int) (a1 : Int) : Tot (Zme a0 a1) (fun r => True) := by
 unfold Zme
 refine tZ ?_
 dsimp only [Z6i, LT.den]
 exact tR trivial
theorem Z3n (a0 : Zs) (a1 : (List UInt8)) (oa0 : Zc9 a0) (oa1 : SzT a1) : Tot (Zpb a0 a1) (fun r => True) := by
 unfold Zpb
 refine tZ ?_
 have lb_a1 : a1.length ≤ 562949953421312 := oa1
 dsimp only [Zxf, LT.den]
 refine tB (Zt5 a0.Subs a1 oa0 oa1) (fun x1 h2 => ?_)
 exact tR trivial
theorem Zae2 (a0 : Int) (a1 : Int) : Tot (Zaby a0 a1) (fun r => True) := by
 unfold Zaby
 refine tZ ?_
 dsimp only [Zapr, LT.den]
 exact tR trivial
theorem Zjm (a0 : Zd) (a1 : Int) : Tot (Zs3 a0 a1) (fun r => True) := by
 unfold Zs3
 refine tZ ?_
 dsimp only [Z09, LT.den]
 refine tE (fun h1 => ?_) (fun h1 => ?_)
 ·exact tR trivial
 ·refine tE (fun h2 => ?_) (fun h2 => ?_)
  ·exact tR trivial
  ·refine tE (fun h3 => ?_) (fun h3 => ?_)
   ·exact tR trivial
   ·refine tE (fun h4 => ?_) (fun h4 => ?_)
    ·exact tR trivial
    ·exact tR trivial
theorem Zae3 (a0 : Int) (a1 : Int) : Tot (Z27 a0 a1) (fun r => (r = muV a0 a1)) := by
 unfold Z27
 refine tZ ?_
 dsimp only [Z92, LT.den]
 refine tB (Zc6 a0) (fun x1 h2 => ?_)
 have eh2_0 := h2
 refine tB (Zc6 a1) (fun x3 h4 => ?_)
 have eh4_0 := h4
 refine qw (x1 * x3) fun q5 q6 => ?_
 refine tB (Zc6 (IntKind.wrap .i64 (x1 * x3))) (fun x7 h8 => ?_)
 have eh8_0 := h8
 exact tR (by unfold muV; grind)
def Zarm : Zmf → Prop
 | .L0 v1 E0 v5 v6 => (0 ≤ v6) ∧ True
def Zyc : Zmf → M6
 | .L0 v1 E0 v5 v6 => (1, (5 - v6).toNat, 1000000, 0, 0, 0)
theorem Zus (a0 : Zp) (a1 : Int) : Tot (Zs4 a0 a1) (fun r => True) := by
 unfold Zs4
 refine tX (Inv := Zarm) (μ := Zyc) (m := (1000000, 0, 0, 0, 0, 0)) ?_ ?_
 ·dsimp only [Z1a, LT.den]
  refine tB (Zpn a0) (fun x1 h2 => ?_)
  have eh2_0 := h2.1
  have eh2_1 := h2.2
  refine tO (fun h3 => ?_) (fun h3 => ?_)
  ·exact tR trivial
  ·have h3_0 := eh2_0 h3
   have h3_1 := eh2_1 h3
   exact tL ⟨cl, trivial⟩ (by unfold Zyc lt6; dsimp only; omega)
 ·intro s hs
  cases s with
  | L0 v1 E0 v5 v6 =>
   obtain ⟨cv6, _⟩ := hs
   show Tot (Zg0 v1 E0 v5 v6).den _
   dsimp only [Zg0, LT.den]
   refine tD (fun h1 => ?_) (fun h1 => ?_)
   ·refine tB (tI (by omega) tk53) (fun x2 h3 => ?_)
    refine tB (Zht v5 x2) (fun x4 h5 => ?_)
    refine qw (v6 + 1) fun q6 q7 => ?_
    exact tL ⟨cl, trivial⟩ (by unfold Zyc lt6; dsimp only; omega)
   ·refine tD (fun h8 => ?_) (fun h8 => ?_)
    ·refine tB (Zae3 E0.X 0) (fun x9 h10 => ?_)
     have eh10_0 := h10
     refine tB (Zht v5 x9) (fun x11 h12 => ?_)
     exact tR trivial
    ·refine tB (Zae3 E0.X v1) (fun x13 h14 => ?_)
     have eh14_0 := h14
     refine tB (Zht v5 x13) (fun x15 h16 => ?_)
     exact tR trivial
def Zrc : Zkn → Prop
 | .L0 E0 E1 v5 => (Zv E0) ∧ (Zak E1)
def Z67 : Zkn → M6
 | .L0 E0 E1 v5 => (0, 0, 0, 0, 0, 0)
theorem Zhx (E0 : Za) (E1 : Ze) (v5 : Bool) (h : Zrc (.L0 E0 E1 v5)) : Tot (Zez E0 E1 v5).den (Nx Zrc Z67 (0, 0, 0, 0, 0, 0) (fun r => True)) := by
 obtain ⟨O0, O1⟩ := h
 dsimp only [Zez, LT.den]
 refine tN (fun h1 => ?_) (fun h1 => ?_)
 ·refine tF (fun h2 => ?_) (fun h2 => ?_)
  ·refine tB (Zjm E1.Tough E0.Tough) (fun x3 h4 => ?_)
   refine tO (fun h5 => ?_) (fun h5 => ?_)
   ·exact tR trivial
   ·refine tB (Zus E0.Cost 0) (fun x6 h7 => ?_)
    refine tB (Zjm E1.Value x6) (fun x8 h9 => ?_)
    exact tR trivial
  ·refine tO (fun h10 => ?_) (fun h10 => ?_)
   ·exact tR trivial
   ·refine tB (Zus E0.Cost 0) (fun x11 h12 => ?_)
    refine tB (Zjm E1.Value x11) (fun x13 h14 => ?_)
    exact tR trivial
 ·refine tB (Zus E0.Cost 0) (fun x15 h16 => ?_)
  refine tB (Zjm E1.Value x15) (fun x17 h18 => ?_)
  exact tR trivial
theorem Z3o (a0 : Za) (a1 : Ze) (oa0 : Zv a0) (oa1 : Zak a1) : Tot (Zpc a0 a1) (fun r => True) := by
 unfold Zpc
 refine tX (Inv := Zrc) (μ := Z67) (m := (1000000, 0, 0, 0, 0, 0)) ?_ ?_
 ·dsimp only [Zxh, LT.den]
  refine tB (Zeu a0.Line.Types 1) (fun x1 h2 => ?_)
  refine tN (fun h3 => ?_) (fun h3 => ?_)
  ·refine tF (fun h4 => ?_) (fun h4 => ?_)
   ·refine tB (Zjm a1.Power a0.Power) (fun x5 h6 => ?_)
    refine tO (fun h7 => ?_) (fun h7 => ?_)
    ·exact tR trivial
    ·exact tJ (Zhx a0 a1 x1 ⟨oa0, oa1⟩)
   ·refine tO (fun h8 => ?_) (fun h8 => ?_)
    ·exact tR trivial
    ·exact tJ (Zhx a0 a1 x1 ⟨oa0, oa1⟩)
  ·exact tJ (Zhx a0 a1 x1 ⟨oa0, oa1⟩)
 ·intro s hs
  cases s with
  | L0 E0 E1 v5 => exact Zhx E0 E1 v5 hs
def Zig : Zh8 → Prop
 | .L0 E0 E1 => (Zv E0) ∧ (Zak E1)
 | .L1 E0 E1 => (Zv E0) ∧ (Zak E1)
def Zut : Zh8 → M6
 | .L0 E0 E1 => (0, 0, 0, 0, 0, 0)
 | .L1 E0 E1 => (0, 0, 0, 0, 0, 0)
theorem Zlo (E0 : Za) (E1 : Ze) (h : Zig (.L1 E0 E1)) : Tot (Zfw E0 E1).den (Nx Zig Zut (0, 0, 0, 0, 0, 0) (fun r => True)) := by
 obtain ⟨O0, O1⟩ := h
 dsimp only [Zfw, LT.den]
 refine tO (fun h1 => ?_) (fun h1 => ?_)
 ·refine tB (Z3n E0.Line E1.Sub O0.2.1 (SzS.t O1)) (fun x2 h3 => ?_)
  refine tO (fun h4 => ?_) (fun h4 => ?_)
  ·exact tR trivial
  ·refine tB (Zae2 E0.Keys E1.Keys) (fun x5 h6 => ?_)
   refine tO (fun h7 => ?_) (fun h7 => ?_)
   ·exact tR trivial
   ·refine tB (Z3o E0 E1 O0 O1) (fun x8 h9 => ?_)
    exact tR trivial
 ·refine tB (Zae2 E0.Keys E1.Keys) (fun x10 h11 => ?_)
  refine tO (fun h12 => ?_) (fun h12 => ?_)
  ·exact tR trivial
  ·refine tB (Z3o E0 E1 O0 O1) (fun x13 h14 => ?_)
   exact tR trivial
theorem Zlp (E0 : Za) (E1 : Ze) (h : Zig (.L0 E0 E1)) : Tot (Zfx E0 E1).den (Nx Zig Zut (0, 0, 0, 0, 0, 0) (fun r => True)) := by
 obtain ⟨O0, O1⟩ := h
 dsimp only [Zfx, LT.den]
 refine tN (fun h1 => ?_) (fun h1 => ?_)
 ·refine tB (Zeu E0.Colors E1.Colors) (fun x2 h3 => ?_)
  refine tO (fun h4 => ?_) (fun h4 => ?_)
  ·exact tR trivial
  ·refine tB (Zeu E0.Colors E1.NotColors) (fun x5 h6 => ?_)
   refine tF (fun h7 => ?_) (fun h7 => ?_)
   ·exact tR trivial
   ·exact tJ (Zlo E0 E1 ⟨O0, O1⟩)
 ·refine tB (Zeu E0.Colors E1.NotColors) (fun x8 h9 => ?_)
  refine tF (fun h10 => ?_) (fun h10 => ?_)
  ·exact tR trivial
  ·exact tJ (Zlo E0 E1 ⟨O0, O1⟩)
theorem Z3p (a0 : Zg) (a1 : Za) (a2 : Int) (a3 : Int) (a4 : Ze) (oa1 : Zv a1) (oa4 : Zak a4) : Tot (Zpe a0 a1 a2 a3 a4) (fun r => True) := by
 unfold Zpe
 refine tX (Inv := Zig) (μ := Zut) (m := (1000000, 0, 0, 0, 0, 0)) ?_ ?_
 ·dsimp only [Zxj, LT.den]
  refine tB (Zeb a4 oa4) (fun x1 h2 => ?_)
  have eh2_0 := h2.1
  have eh2_1 := h2.2
  refine tO (fun h3 => ?_) (fun h3 => ?_)
  ·exact tR trivial
  ·have h3_0 := eh2_0 h3
   refine tN (fun h4 => ?_) (fun h4 => ?_)
   ·exact tR trivial
   ·refine tB (Zaya a1.Control a2 a4.Who) (fun x5 h6 => ?_)
    refine tO (fun h7 => ?_) (fun h7 => ?_)
    ·exact tR trivial
    ·refine tB (Zawt a0.Id a3 a4.Self) (fun x8 h9 => ?_)
     refine tO (fun h10 => ?_) (fun h10 => ?_)
     ·exact tR trivial
     ·refine tB (Zayb a0.Tapped a4.Tap) (fun x11 h12 => ?_)
      refine tO (fun h13 => ?_) (fun h13 => ?_)
      ·exact tR trivial
      ·refine tN (fun h14 => ?_) (fun h14 => ?_)
       ·refine tB (Zeu a1.Line.Types a4.Types) (fun x15 h16 => ?_)
        refine tO (fun h17 => ?_) (fun h17 => ?_)
        ·exact tR trivial
        ·refine tB (Zeu a1.Line.Types a4.NotTypes) (fun x18 h19 => ?_)
         refine tF (fun h20 => ?_) (fun h20 => ?_)
         ·exact tR trivial
         ·exact tJ (Zlp a1 a4 ⟨oa1, oa4⟩)
       ·refine tB (Zeu a1.Line.Types a4.NotTypes) (fun x21 h22 => ?_)
        refine tF (fun h23 => ?_) (fun h23 => ?_)
        ·exact tR trivial
        ·exact tJ (Zlp a1 a4 ⟨oa1, oa4⟩)
 ·intro s hs
  cases s with
  | L0 E0 E1 => exact Zlp E0 E1 hs
  | L1 E0 E1 => exact Zlo E0 E1 hs
def Zalz : Zjd → Prop
 | .L0 v1 E0 v5 E1 v7 => (Zw E0) ∧ ((SzL 8 (fun _ => True)) v5) ∧ (Z7 E1) ∧ (0 ≤ v7) ∧ (E0.All.length = E0.S.Objects.length) ∧ (E0.Blank.length = E0.S.Objects.length) ∧ (E0.Begun.length = E0.L.length) ∧ (E0.Sets.length = E0.L.length) ∧ (E0.S.Objects.length ≤ 60) ∧ (E0.L.length ≤ 10000) ∧ (0 ≤ v1) ∧ (v1 < E0.L.length) ∧ (v5.length ≤ v7.toNat) ∧ (v7.toNat ≤ E0.S.Objects.length)
def Z3q : Zjd → M6
 | .L0 v1 E0 v5 E1 v7 => (1, ((E0.S.Objects.length : Int) - v7).toNat, 1000000, 0, 0, 0)
theorem Zpz (a0 : Zc) (a1 : Int) (oa0 : Zw a0) (h0 : a0.All.length = a0.S.Objects.length) (h1 : a0.Blank.length = a0.S.Objects.length) (h2 : a0.Begun.length = a0.L.length) (h3 : a0.Sets.length = a0.L.length) (h4 : a0.S.Objects.length ≤ 60) (h5 : a0.L.length ≤ 10000) (h6 : 0 ≤ a1) (h7 : a1 < a0.L.length) : Tot (Z1b a0 a1) (fun r => ((SzL 8 (fun _ => True)) r)) := by
 unfold Z1b
 refine tX (Inv := Zalz) (μ := Z3q) (m := (1000000, 0, 0, 0, 0, 0)) ?_ ?_
 ·dsimp only [Z6m, LT.den]
  refine tB (tI (by omega) (by omega)) (fun x1 h2 => ?_)
  refine tF (fun h3 => ?_) (fun h3 => ?_)
  ·refine tB (tI (by omega) (by omega)) (fun x4 h5 => ?_)
   have oh5 : (SzL 8 (fun _ => True)) x4 := oa0.2.2.2.2.1.2 x4 h5.1
   exact tR oh5
  ·refine tB (Zk8 a0 a1 oa0 cl cl cl cl cl cl cl cl) (fun x6 h7 => ?_)
   refine tO (fun h8 => ?_) (fun h8 => ?_)
   ·exact tR SzL.nil
   ·refine tB (tI (by omega) (by omega)) (fun x9 h10 => ?_)
    have oh10 : Z7 x9 := oa0.2.2.1.2 x9 h10.1
    exact tL ⟨oa0, SzL.nil, oh10, cl, cl, cl, cl, cl, cl, cl, cl, cl, cl, cl⟩ Z5b
 ·intro s hs
  cases s with
  | L0 v1 E0 v5 E1 v7 =>
   obtain ⟨O0, ov5, O1, cv7, i0, i1, i2, i3, i4, i5, i6, i7, i8, i9⟩ := hs
   have lb_v5 := ov5.1
   show Tot (Zqs v1 E0 v5 E1 v7).den _
   dsimp only [Zqs, LT.den]
   have q1 := O0.1.2.1.1
   refine tD (fun h2 => ?_) (fun h2 => ?_)
   ·refine tB (tI (by omega) (by omega)) (fun x3 h4 => ?_)
    refine tN (fun h5 => ?_) (fun h5 => ?_)
    ·refine qw (v7 + 1) fun q6 q7 => ?_
     exact tL ⟨O0, ov5, O1, cl, cl, cl, cl, cl, cl, cl, cl, cl, cl, cl⟩ Z5b
    ·refine tF (fun h8 => ?_) (fun h8 => ?_)
     ·refine tB (Zae1 E1.Objects x3.Id O1.1) (fun x9 h10 => ?_)
      have eh10_0 := h10
      refine tF (fun h11 => ?_) (fun h11 => ?_)
      ·have q12 : (SzL 8 (fun _ => True)) ([x3.Id] : (List Int)) := ⟨by simp only [List.length_cons, List.length_nil]; omega, fun _ _ => trivial⟩
       have q15 := ov5.1
       refine tB (tA Zc5 (by decide)) (fun x13 h14 => ?_)
       have lh14 : x13.length = v5.length + 1 := by rw [h14, List.length_append]; rfl
       refine qw (v7 + 1) fun q16 q17 => ?_
       exact tL ⟨O0, ⟨lo, fun _ _ => trivial⟩, O1, cl, cl, cl, cl, cl, cl, cl, cl, cl, cl, cl⟩ Z5b
      ·refine tO (fun h18 => ?_) (fun h18 => ?_)
       ·refine tB (tI (by omega) (by omega)) (fun x19 h20 => ?_)
        have oh20 : Zv x19 := O0.2.1.2 x19 h20.1
        refine tB (Zrv E0 v1 O0 cl cl cl cl cl cl cl cl) (fun x21 h22 => ?_)
        refine tB (Z3p x3 x19 x21 E1.Source E1.Filter oh20 O1.2.1) (fun x23 h24 => ?_)
        refine tF (fun h25 => ?_) (fun h25 => ?_)
        ·have q26 : (SzL 8 (fun _ => True)) ([x3.Id] : (List Int)) := ⟨by simp only [List.length_cons, List.length_nil]; omega, fun _ _ => trivial⟩
         have q29 := ov5.1
         refine tB (tA Zc5 (by decide)) (fun x27 h28 => ?_)
         have lh28 : x27.length = v5.length + 1 := by rw [h28, List.length_append]; rfl
         refine qw (v7 + 1) fun q30 q31 => ?_
         exact tL ⟨O0, ⟨lo, fun _ _ => trivial⟩, O1, cl, cl, cl, cl, cl, cl, cl, cl, cl, cl, cl⟩ Z5b
        ·refine qw (v7 + 1) fun q32 q33 => ?_
         exact tL ⟨O0, ov5, O1, cl, cl, cl, cl, cl, cl, cl, cl, cl, cl, cl⟩ Z5b
       ·refine qw (v7 + 1) fun q34 q35 => ?_
        exact tL ⟨O0, ov5, O1, cl, cl, cl, cl, cl, cl, cl, cl, cl, cl, cl⟩ Z5b
     ·refine tO (fun h36 => ?_) (fun h36 => ?_)
      ·refine tB (tI (by omega) (by omega)) (fun x37 h38 => ?_)
       have oh38 : Zv x37 := O0.2.1.2 x37 h38.1
       refine tB (Zrv E0 v1 O0 cl cl cl cl cl cl cl cl) (fun x39 h40 => ?_)
       refine tB (Z3p x3 x37 x39 E1.Source E1.Filter oh38 O1.2.1) (fun x41 h42 => ?_)
       refine tF (fun h43 => ?_) (fun h43 => ?_)
       ·have q44 : (SzL 8 (fun _ => True)) ([x3.Id] : (List Int)) := ⟨by simp only [List.length_cons, List.length_nil]; omega, fun _ _ => trivial⟩
        have q47 := ov5.1
        refine tB (tA Zc5 (by decide)) (fun x45 h46 => ?_)
        have lh46 : x45.length = v5.length + 1 := by rw [h46, List.length_append]; rfl
        refine qw (v7 + 1) fun q48 q49 => ?_
        exact tL ⟨O0, ⟨lo, fun _ _ => trivial⟩, O1, cl, cl, cl, cl, cl, cl, cl, cl, cl, cl, cl⟩ Z5b
       ·refine qw (v7 + 1) fun q50 q51 => ?_
        exact tL ⟨O0, ov5, O1, cl, cl, cl, cl, cl, cl, cl, cl, cl, cl, cl⟩ Z5b
      ·refine qw (v7 + 1) fun q52 q53 => ?_
       exact tL ⟨O0, ov5, O1, cl, cl, cl, cl, cl, cl, cl, cl, cl, cl, cl⟩ Z5b
   ·exact tR ov5
theorem Zawu (a0 : Zb) (a1 : List Za) (a2 a3 : Int) (a4 : Ze) (oa0 : Zq a0) (oa1 : (SzL 176 Zv) a1) (oa4 : Zak a4) : Tot (Zxk a0 a1 a2 a3 a4) (fun r => ((SzL 8 (fun _ => True)) r) ∧ (r = Zzp a0 a1 a2 a3 a4)) :=
 ⟨_, Zax4 a0 a1 a2 a3 a4 oa0.2.1.1 fun t ht => Zay3 (oa1.2 t ht), Zawr oa0, rfl⟩
abbrev Zahc (a0 : Zc) (a1 : Int) (a2 : Int) (r : (List Int)) : Prop := ((SzL 8 (fun _ => True)) r) ∧ (∀ f, a0.L[a1.toNat]? = some f → r.length = (f.Mods.filter fun m => (Zb3 m.Kind).getD 0 == a2).length)
def Zal0 (a0 : Zc) (a1 : Int) (a2 : Int) : Zje → Prop
 | .L0 v1 v2 E0 v7 E1 v9 => (E0 = a0) ∧ (v1 = a1) ∧ (v2 = a2) ∧ (Zw E0) ∧ ((SzL 8 (fun _ => True)) v7) ∧ (Z7 E1) ∧ (0 ≤ v9) ∧ (E0.All.length = E0.S.Objects.length) ∧ (E0.Blank.length = E0.S.Objects.length) ∧ (E0.Begun.length = E0.L.length) ∧ (E0.Sets.length = E0.L.length) ∧ (E0.S.Objects.length ≤ 60) ∧ (E0.L.length ≤ 10000) ∧ (0 ≤ v1) ∧ (v1 < E0.L.length) ∧ (v7.length ≤ v9.toNat) ∧ (v9.toNat ≤ E1.Mods.length) ∧ (E0.L[v1.toNat]? = some E1) ∧ (v7.length = cnt (fun m => (Zb3 m.Kind).getD 0 == v2) E1.Mods v9)
def Z3r : Zje → M6
 | .L0 v1 v2 E0 v7 E1 v9 => (1, ((E1.Mods.length : Int) - v9).toNat, 1000000, 0, 0, 0)
theorem Zp0 (a0 : Zc) (a1 : Int) (a2 : Int) (oa0 : Zw a0) (h0 : a0.All.length = a0.S.Objects.length) (h1 : a0.Blank.length = a0.S.Objects.length) (h2 : a0.Begun.length = a0.L.length) (h3 : a0.Sets.length = a0.L.length) (h4 : a0.S.Objects.length ≤ 60) (h5 : a0.L.length ≤ 10000) (h6 : 0 ≤ a1) (h7 : a1 < a0.L.length) : Tot (Zrq a0 a1 a2) (Zahc a0 a1 a2) := by
 unfold Zrq
 refine tX (Inv := (Zal0 a0 a1 a2)) (μ := Z3r) (m := (1000000, 0, 0, 0, 0, 0)) ?_ ?_
 ·dsimp only [Z6o, LT.den]
  refine tB (tI (by omega) (by omega)) (fun x1 h2 => ?_)
  have oh2 : Z7 x1 := oa0.2.2.1.2 x1 h2.1
  have mh2 := h2.2
  exact tL ⟨rfl, rfl, rfl, oa0, SzL.nil, oh2, cl, cl, cl, cl, cl, cl, cl, cl, cl, cl, cl, (by assumption), tk10⟩ tk70
 ·intro s hs
  cases s with
  | L0 v1 v2 E0 v7 E1 v9 =>
   obtain ⟨al0, al1, al2, O0, ov7, O1, cv9, i0, i1, i2, i3, i4, i5, i6, i7, i8, i9, i10, i11⟩ := hs
   have lb_v7 := ov7.1
   subst al0
   subst al1
   subst al2
   show Tot (Zqu v1 v2 E0 v7 E1 v9).den _
   dsimp only [Zqu, LT.den]
   have q1 := O1.2.2.1
   refine tD (fun h2 => ?_) (fun h2 => ?_)
   ·refine tB (tI (by omega) (by omega)) (fun x3 h4 => ?_)
    have oh4 : Zar x3 := O1.2.2.2 x3 h4.1
    have mh4 := h4.2
    refine tB (Zm4 x3.Kind) (fun x5 h6 => ?_)
    have eh6_0 := h6
    refine tN (fun h7 => ?_) (fun h7 => ?_)
    ·refine qw (v9 + 1) fun q8 q9 => ?_
     exact tL ⟨rfl, rfl, rfl, O0, ov7, O1, cl, cl, cl, cl, cl, cl, cl, cl, cl, cl, cl, (by assumption), tk10⟩ tk70
    ·refine tE (fun h10 => ?_) (fun h10 => ?_)
     ·refine tB (Zrv E0 v1 O0 cl cl cl cl cl cl cl cl) (fun x11 h12 => ?_)
      refine tB (Zawu E0.S E0.All x11 E1.Source x3.Filter O0.1 O0.2.1 oh4.2) (fun x13 h14 => ?_)
      have eh14_1 := h14.2
      have q15 := h14.1.1
      have q16 : (SzL 8 (fun _ => True)) ([(x13.length : Int)] : (List Int)) := ⟨by simp only [List.length_cons, List.length_nil]; omega, fun _ _ => trivial⟩
      have q19 := ov7.1
      refine tB (tA Zc5 (by decide)) (fun x17 h18 => ?_)
      have lh18 : x17.length = v7.length + 1 := by rw [h18, List.length_append]; rfl
      refine qw (v9 + 1) fun q20 q21 => ?_
      exact tL ⟨rfl, rfl, rfl, O0, ⟨lo, fun _ _ => trivial⟩, O1, cl, cl, cl, cl, cl, cl, cl, cl, cl, cl, cl, (by assumption), tk10⟩ tk70
     ·have q22 : (SzL 8 (fun _ => True)) ([0] : (List Int)) := ⟨by simp only [List.length_cons, List.length_nil]; omega, fun _ _ => trivial⟩
      have q25 := ov7.1
      refine tB (tA Zc5 (by decide)) (fun x23 h24 => ?_)
      have lh24 : x23.length = v7.length + 1 := by rw [h24, List.length_append]; rfl
      refine qw (v9 + 1) fun q26 q27 => ?_
      exact tL ⟨rfl, rfl, rfl, O0, ⟨lo, fun _ _ => trivial⟩, O1, cl, cl, cl, cl, cl, cl, cl, cl, cl, cl, cl, (by assumption), tk10⟩ tk70
   ·exact tR ⟨ov7, (by intro f hf; cases hf.symm.trans (by assumption : _ = some E1); rw [← Za6v (v := v9) (by omega)]; assumption)⟩
def Zrd : Zh9 → Prop
 | .L0 v1 E0 E1 v5 v6 => (SzT v1) ∧ (Zc9 E0) ∧ (Zc9 E1) ∧ ((SzL 16 SzT) v5) ∧ (0 ≤ v6) ∧ (v6.toNat ≤ v5.length) ∧ (v5.length ≤ 4)
 | .L1 v1 E0 E1 v5 v6 => (SzT v1) ∧ (Zc9 E0) ∧ (Zc9 E1) ∧ ((SzL 16 SzT) v5) ∧ (0 ≤ v6) ∧ (v6.toNat ≤ v5.length) ∧ (v5.length ≤ 4)
def Zjn : Zh9 → M6
 | .L0 v1 E0 E1 v5 v6 => (1, ((v5.length : Int) - v6).toNat, 1000000, 0, 0, 0)
 | .L1 v1 E0 E1 v5 v6 => (0, 0, 0, 0, 0, 0)
theorem Zlq (v1 : (List UInt8)) (E0 : Zs) (E1 : Zs) (v5 : (List (List UInt8))) (v6 : Int) (h : Zrd (.L1 v1 E0 E1 v5 v6)) : Tot (Zjf v1 E0 E1 v5 v6).den (Nx Zrd Zjn (0, 0, 0, 0, 0, 0) (fun r => (Zc9 r))) := by
 obtain ⟨ov1, O0, O1, ov5, i0, i1, i2⟩ := h
 have lb_v1 : v1.length ≤ 562949953421312 := ov1
 have lb_v5 := ov5.1
 dsimp only [Zjf, LT.den]
 have q3 := ov5.1
 refine tB (Tot.slice (by omega) (by omega) (by omega)) (fun x1 h2 => ?_)
 have lh2 := h2.1
 have q6 : x1.length * 16 ≤ 140737488351232 := (show SzL 16 SzT x1 from ⟨lo, fun e he => ov5.2 e (h2.2.1 e he)⟩).1
 refine tB (tA Zlj (by decide)) (fun x4 h5 => ?_)
 have lh5 : x4.length = ([] : (List (List UInt8))).length + x1.length := by rw [h5, List.length_append]
 try simp only [List.length_cons, List.length_nil, Nat.zero_add] at lh5
 have q7 : (SzL 16 SzT) ([v1] : (List (List UInt8))) := ⟨by simp only [List.length_cons, List.length_nil]; omega, (mem_cons' ov1 (fun _ h => by cases h))⟩
 have q10 := (SzL.app (k := 16) h5 lo (fun _ h => by cases h) (show SzL _ SzT _ from ⟨lo, fun e he => ov5.2 e (h2.2.1 e he)⟩).2).1
 refine tB (tA Zc5 (by decide)) (fun x8 h9 => ?_)
 have lh9 : x8.length = x4.length + 1 := by rw [h9, List.length_append]; rfl
 refine tB (Tot.slice (by omega) (by omega) (by omega)) (fun x11 h12 => ?_)
 have lh12 := h12.1
 have q15 := (SzL.app (k := 16) h9 lo (SzL.app (k := 16) h5 lo (fun _ h => by cases h) (show SzL _ SzT _ from ⟨lo, fun e he => ov5.2 e (h2.2.1 e he)⟩).2).2 q7.2).1
 have q16 : x11.length * 16 ≤ 140737488351232 := (show SzL 16 SzT x11 from ⟨lo, fun e he => ov5.2 e (h12.2.1 e he)⟩).1
 refine tB (tA Zlj (by decide)) (fun x13 h14 => ?_)
 have lh14 : x13.length = x8.length + x11.length := by rw [h14, List.length_append]
 try simp only [List.length_cons, List.length_nil, Nat.zero_add] at lh14
 exact tR (SzL.app (k := 16) h14 lo (SzL.app (k := 16) h9 lo (SzL.app (k := 16) h5 lo (fun _ h => by cases h) (show SzL _ SzT _ from ⟨lo, fun e he => ov5.2 e (h2.2.1 e he)⟩).2).2 q7.2).2 (show SzL _ SzT _ from ⟨lo, fun e he => ov5.2 e (h12.2.1 e he)⟩).2)
theorem Zaog (a0 : Zs) (a1 : (List UInt8)) (oa0 : Zc9 a0) (oa1 : SzT a1) : Tot (Z4x a0 a1) (fun r => (Zc9 r)) := by
 unfold Z4x
 refine tX (Inv := Zrd) (μ := Zjn) (m := (1000000, 0, 0, 0, 0, 0)) ?_ ?_
 ·have lb_a1 : a1.length ≤ 562949953421312 := oa1
  dsimp only [Z93, LT.den]
  have q3 := oa0.1
  refine tB (tA Zlj (by decide)) (fun x1 h2 => ?_)
  have lh2 : x1.length = ([] : (List (List UInt8))).length + a0.Subs.length := by rw [h2, List.length_append]
  try simp only [List.length_cons, List.length_nil, Nat.zero_add] at lh2
  refine tB (Zmu a1 oa1) (fun x4 h5 => ?_)
  refine tO (fun h6 => ?_) (fun h6 => ?_)
  ·exact tR (SzL.app (k := 16) h2 lo (fun _ h => by cases h) oa0.2)
  ·refine tB (Z3n a0 a1 oa0 oa1) (fun x7 h8 => ?_)
   refine tF (fun h9 => ?_) (fun h9 => ?_)
   ·exact tR (SzL.app (k := 16) h2 lo (fun _ h => by cases h) oa0.2)
   ·have q10 := (SzL.app (k := 16) h2 lo (fun _ h => by cases h) oa0.2).1
    refine tD (fun h11 => ?_) (fun h11 => ?_)
    ·exact tR (SzL.app (k := 16) h2 lo (fun _ h => by cases h) oa0.2)
    ·exact tL ⟨oa1, oa0, SzL.nil, (SzL.app (k := 16) h2 lo (fun _ h => by cases h) oa0.2), cl, cl, cl⟩ (by unfold Zjn lt6; dsimp only; omega)
 ·intro s hs
  cases s with
  | L0 v1 E0 E1 v5 v6 =>
   obtain ⟨ov1, O0, O1, ov5, i0, i1, i2⟩ := hs
   have lb_v1 : v1.length ≤ 562949953421312 := ov1
   have lb_v5 := ov5.1
   show Tot (Ztt v1 E0 E1 v5 v6).den _
   dsimp only [Ztt, LT.den, Zjn]
   have q1 := ov5.1
   refine tD (fun h2 => ?_) (fun h2 => ?_)
   ·refine tB (tI (by omega) (by omega)) (fun x3 h4 => ?_)
    have oh4 : SzT x3 := ov5.2 x3 h4.1
    refine tF (fun h5 => ?_) (fun h5 => ?_)
    ·refine qw (v6 + 1) fun q6 q7 => ?_
     exact tL ⟨ov1, O0, O1, ov5, cl, cl, cl⟩ (by unfold Zjn lt6; dsimp only; omega)
    ·exact tJ (Zlq v1 E0 E1 v5 v6 ⟨ov1, O0, O1, ov5, cl, cl, cl⟩)
   ·exact tJ (Zlq v1 E0 E1 v5 v6 ⟨ov1, O0, O1, ov5, cl, cl, cl⟩)
  | L1 v1 E0 E1 v5 v6 => exact Zlq v1 E0 E1 v5 v6 hs
theorem Zarn (a0 : Za) (a1 : Zr) (a2 : Int) (a3 : Int) (oa0 : Zv a0) (oa1 : Zar a1) : Tot (Z95 a0 a1 a2 a3) (fun r => (Zv r)) := by
 unfold Z95
 refine tZ ?_
 dsimp only [Zaee, LT.den]
 refine tB (Z5i a1 oa1) (fun x1 h2 => ?_)
 refine tO (fun h3 => ?_) (fun h3 => ?_)
 ·exact tR oa0
 ·refine tE (fun h4 => ?_) (fun h4 => ?_)
  ·exact tR ⟨oa0.1, oa0.2.1, oa0.2.2⟩
  ·refine tE (fun h5 => ?_) (fun h5 => ?_)
   ·exact tR ⟨oa0.1, oa0.2.1, oa0.2.2⟩
   ·refine tE (fun h6 => ?_) (fun h6 => ?_)
    ·exact tR ⟨oa0.1, oa0.2.1, oa0.2.2⟩
    ·refine tE (fun h7 => ?_) (fun h7 => ?_)
     ·have q8 : (SzL 16 SzT) ([a1.Sub] : (List (List UInt8))) := ⟨by simp only [List.length_cons, List.length_nil]; omega, (mem_cons' (SzS.t oa1.1) (fun _ h => by cases h))⟩
      exact tR ⟨oa0.1, q8, oa0.2.2⟩
     ·refine tE (fun h9 => ?_) (fun h9 => ?_)
      ·refine tB (Zaog a0.Line a1.Sub oa0.2.1 (SzS.t oa1.1)) (fun x10 h11 => ?_)
       exact tR ⟨oa0.1, h11, oa0.2.2⟩
      ·refine tE (fun h12 => ?_) (fun h12 => ?_)
       ·exact tR ⟨oa0.1, oa0.2.1, oa0.2.2⟩
       ·refine tE (fun h13 => ?_) (fun h13 => ?_)
        ·exact tR ⟨oa0.1, oa0.2.1, oa0.2.2⟩
        ·refine tE (fun h14 => ?_) (fun h14 => ?_)
         ·exact tR ⟨oa0.1, oa0.2.1, oa0.2.2⟩
         ·refine tE (fun h15 => ?_) (fun h15 => ?_)
          ·exact tR ⟨oa0.1, oa0.2.1, oa0.2.2⟩
          ·refine tE (fun h16 => ?_) (fun h16 => ?_)
           ·exact tR ⟨oa0.1, oa0.2.1, SzL.nil⟩
           ·refine tE (fun h17 => ?_) (fun h17 => ?_)
            ·refine tB (Zc6 a3) (fun x18 h19 => ?_)
             have eh19_0 := h19
             refine tB (Zc6 a3) (fun x20 h21 => ?_)
             have eh21_0 := h21
             exact tR ⟨oa0.1, oa0.2.1, oa0.2.2⟩
            ·refine tE (fun h22 => ?_) (fun h22 => ?_)
             ·exact tR ⟨oa0.1, oa0.2.1, oa0.2.2⟩
             ·refine tE (fun h23 => ?_) (fun h23 => ?_)
              ·refine tB (Zht a0.Power a1.N) (fun x24 h25 => ?_)
               refine tB (Zht a0.Tough a1.M) (fun x26 h27 => ?_)
               exact tR ⟨oa0.1, oa0.2.1, oa0.2.2⟩
              ·refine tE (fun h28 => ?_) (fun h28 => ?_)
               ·exact tR ⟨oa0.1, oa0.2.1, oa0.2.2⟩
               ·exact tR oa0
def Zyd : Zia → Prop
 | .L0 v2 v3 v4 E0 E1 E2 v11 v12 => ((SzL 8 (fun _ => True)) v4) ∧ (Zv E0) ∧ (Z7 E1) ∧ (Zv E2) ∧ (0 ≤ v12) ∧ (0 ≤ v11) ∧ (v11 = cnt (fun m => (Zb3 m.Kind).getD 0 == v2) E1.Mods v12) ∧ (v4.length = (E1.Mods.filter fun m => (Zb3 m.Kind).getD 0 == v2).length) ∧ (v11 ≤ 17592186043904)
def Zp1 : Zia → M6
 | .L0 v2 v3 v4 E0 E1 E2 v11 v12 => (1, ((E1.Mods.length : Int) - v12).toNat, 1000000, 0, 0, 0)
theorem Z7h (v2 : Int) (v3 : Int) (v4 : (List Int)) (E0 : Za) (E1 : Zl) (E2 : Za) (v11 : Int) (v12 : Int) (h : ((SzL 8 (fun _ => True)) v4) ∧ (Zv E0) ∧ (Z7 E1) ∧ (Zv E2) ∧ (0 ≤ v12) ∧ (0 ≤ v11) ∧ (v11 = cnt (fun m => (Zb3 m.Kind).getD 0 == v2) E1.Mods v12) ∧ (v4.length = (E1.Mods.filter fun m => (Zb3 m.Kind).getD 0 == v2).length) ∧ (v11 ≤ 17592186043904)) : Tot (Zpf v2 v3 v4 E0 E1 E2 v11 v12).den (Nx Zyd Zp1 (1, ((E1.Mods.length : Int) - v12).toNat, 1000000, 0, 0, 0) (fun r => (Zv r))) := by
 obtain ⟨ov4, O0, O1, O2, cv12, cv11, i0, i1, i2⟩ := h
 have lb_v4 : v4.length * 8 ≤ 140737488351232 := ov4.1
 dsimp only [Zpf, LT.den]
 have q1 : E1.Mods.length * 176 ≤ 140737488351232 := O1.2.2.1
 refine tD (fun h2 => ?_) (fun h2 => ?_)
 ·refine tB (tI (by omega) (by omega)) (fun x3 h4 => ?_)
  have oh4 : Zar x3 := O1.2.2.2 x3 h4.1
  refine tB (Zm4 x3.Kind) (fun x5 h6 => ?_)
  refine tE (fun h7 => ?_) (fun h7 => ?_)
  ·have hp : (fun m : Zr => (Zb3 m.Kind).getD 0 == v2) x3 = true := by
    show ((Zb3 x3.Kind).getD 0 == v2) = true
    rw [← h6, h7]; exact beq_self_eq_true _
   have hlt := Za77 (p := fun m : Zr => (Zb3 m.Kind).getD 0 == v2) h4.2 cv12 hp
   have hnx := fun w => Zamx (p := fun m : Zr => (Zb3 m.Kind).getD 0 == v2) (w := w) h4.2 cv12 hp
   refine tB (tI (by omega) (by omega)) (fun x8 h9 => ?_)
   refine tB (Zarn E0 x3 v3 x8 O0 oh4) (fun x10 h11 => ?_)
   replace h11 : (Zv x10) := h11
   refine qw (v11 + 1) fun q12 q13 => ?_
   refine qw (v12 + 1) fun q14 q15 => ?_
   have hw : IntKind.wrap .i64 (v12 + 1) = v12 + 1 := by omega
   exact tL ⟨ov4, h11, O1, O2, cl, cl, by rw [hw, hnx _ rfl]; omega, i1, cl⟩ tk63
  ·have hp : (fun m : Zr => (Zb3 m.Kind).getD 0 == v2) x3 = false := by
    show ((Zb3 x3.Kind).getD 0 == v2) = false
    rw [← h6]; exact beq_false_of_ne h7
   have hnx := fun w => Zatf (p := fun m : Zr => (Zb3 m.Kind).getD 0 == v2) (w := w) h4.2 cv12 hp
   refine qw (v12 + 1) fun q16 q17 => ?_
   have hw : IntKind.wrap .i64 (v12 + 1) = v12 + 1 := by omega
   exact tL ⟨ov4, O0, O1, O2, cl, cv11, by rw [hw, hnx _ rfl]; exact i0, i1, i2⟩ tk63
 ·exact tR O0
theorem Zahd (a0 : Za) (a1 : Zl) (a2 : Int) (a3 : Int) (a4 : (List Int)) (oa0 : Zv a0) (oa1 : Z7 a1) (oa4 : (SzL 8 (fun _ => True)) a4) (h0 : a4.length = (a1.Mods.filter fun m => (Zb3 m.Kind).getD 0 == a2).length) : Tot (Zxl a0 a1 a2 a3 a4) (fun r => (Zv r)) := by
 unfold Zxl
 refine tX (Inv := Zyd) (μ := Zp1) (m := (1000000, 0, 0, 0, 0, 0)) ?_ ?_
 ·have lb_a4 : a4.length * 8 ≤ 140737488351232 := oa4.1
  dsimp only [Z28, LT.den]
  exact tL ⟨oa4, oa0, oa1, ⟨(SzS.nil), SzL.nil, SzL.nil⟩, cl, cl, rfl, h0, cl⟩ tk63
 ·intro s hs
  cases s with
  | L0 v2 v3 v4 E0 E1 E2 v11 v12 => exact Z7h v2 v3 v4 E0 E1 E2 v11 v12 hs
def Zaro : Zmh → Prop
 | .L0 v1 E0 v5 => (Z7 E0) ∧ (0 ≤ v5)
def Zabd : Zmh → M6
 | .L0 v1 E0 v5 => (1, ((E0.Mods.length : Int) - v5).toNat, 1000000, 0, 0, 0)
theorem Zarp (a0 : Zl) (a1 : Int) (oa0 : Z7 a0) : Tot (Z96 a0 a1) (fun r => True) := by
 unfold Z96
 refine tX (Inv := Zaro) (μ := Zabd) (m := (1000000, 0, 0, 0, 0, 0)) ?_ ?_
 ·dsimp only [Zaeg, LT.den]
  exact tL ⟨oa0, cl⟩ tk88
 ·intro s hs
  cases s with
  | L0 v1 E0 v5 =>
   obtain ⟨O0, cv5⟩ := hs
   show Tot (Zxm v1 E0 v5).den _
   dsimp only [Zxm, LT.den]
   have q1 := O0.2.2.1
   refine tD (fun h2 => ?_) (fun h2 => ?_)
   ·refine tB (tI (by omega) (by omega)) (fun x3 h4 => ?_)
    have oh4 : Zar x3 := O0.2.2.2 x3 h4.1
    refine tE (fun h5 => ?_) (fun h5 => ?_)
    ·refine tB (Zm4 x3.Kind) (fun x6 h7 => ?_)
     have eh7_0 := h7
     refine tE (fun h8 => ?_) (fun h8 => ?_)
     ·exact tR trivial
     ·refine qw (v5 + 1) fun q9 q10 => ?_
      exact tL ⟨O0, cl⟩ tk88
    ·refine qw (v5 + 1) fun q11 q12 => ?_
     exact tL ⟨O0, cl⟩ tk88
   ·exact tR trivial
abbrev Zahe (a0 : Zc) (a1 : Int) (a2 : Int) (r : Zc) : Prop := (Zw r) ∧ (r.S.Objects.length = a0.S.Objects.length) ∧ (r.L.length = a0.L.length) ∧ (r.All.length = r.S.Objects.length) ∧ (r.Blank.length = r.S.Objects.length) ∧ (r.Begun.length = r.L.length) ∧ (r.Sets.length = r.L.length)
def Zal1 (a0 : Zc) (a1 : Int) (a2 : Int) : Zjg → Prop
 | .L0 v1 v2 E0 E1 v7 v8 v9 E2 v11 => (E0 = a0) ∧ (Zw E0) ∧ (Zw E1) ∧ ((SzL 8 (fun _ => True)) v7) ∧ ((SzL 8 (fun _ => True)) v8) ∧ (Zw E2) ∧ (0 ≤ v11) ∧ (E0.All.length = E0.S.Objects.length) ∧ (E0.Blank.length = E0.S.Objects.length) ∧ (E0.Begun.length = E0.L.length) ∧ (E0.Sets.length = E0.L.length) ∧ (E0.S.Objects.length ≤ 60) ∧ (E0.L.length ≤ 10000) ∧ (0 ≤ v1) ∧ (v1 < E0.L.length) ∧ (E2.S.Objects.length = E0.S.Objects.length) ∧ (E2.L.length = E0.L.length) ∧ (E2.All.length = E2.S.Objects.length) ∧ (E2.Blank.length = E2.S.Objects.length) ∧ (E2.Begun.length = E2.L.length) ∧ (E2.Sets.length = E2.L.length) ∧ (∀ f, E0.L[v1.toNat]? = some f → v8.length = (f.Mods.filter fun m => (Zb3 m.Kind).getD 0 == v2).length)
def Z3s : Zjg → M6
 | .L0 v1 v2 E0 E1 v7 v8 v9 E2 v11 => (1, ((E0.S.Objects.length : Int) - v11).toNat, 1000000, 0, 0, 0)
theorem Zzx (a0 : Zc) (a1 : Int) (a2 : Int) (oa0 : Zw a0) (h0 : a0.All.length = a0.S.Objects.length) (h1 : a0.Blank.length = a0.S.Objects.length) (h2 : a0.Begun.length = a0.L.length) (h3 : a0.Sets.length = a0.L.length) (h4 : a0.S.Objects.length ≤ 60) (h5 : a0.L.length ≤ 10000) (h6 : 0 ≤ a1) (h7 : a1 < a0.L.length) : Tot (Z1c a0 a1 a2) (Zahe a0 a1 a2) := by
 unfold Z1c
 refine tX (Inv := (Zal1 a0 a1 a2)) (μ := Z3s) (m := (1000000, 0, 0, 0, 0, 0)) ?_ ?_
 ·dsimp only [Z6q, LT.den]
  refine tB (Zk8 a0 a1 oa0 cl cl cl cl cl cl cl cl) (fun x1 h2 => ?_)
  refine tO (fun h3 => ?_) (fun h3 => ?_)
  ·exact tR ⟨oa0, cl, cl, cl, cl, cl, cl⟩
  ·refine tB (Zpz a0 a1 oa0 cl cl cl cl cl cl cl cl) (fun x4 h5 => ?_)
   refine tB (Zp0 a0 a1 a2 oa0 cl cl cl cl cl cl cl cl) (fun x6 h7 => ?_)
   have eh7_1 := h7.2
   refine tB (Zrv a0 a1 oa0 cl cl cl cl cl cl cl cl) (fun x8 h9 => ?_)
   have q12 := oa0.2.1.1
   refine tB (tA Zlj (by decide)) (fun x10 h11 => ?_)
   have lh11 : x10.length = ([] : (List Za)).length + a0.All.length := by rw [h11, List.length_append]
   try simp only [List.length_cons, List.length_nil, Nat.zero_add] at lh11
   have q15 := oa0.2.2.2.1.1
   refine tB (tA Zlj (by decide)) (fun x13 h14 => ?_)
   have lh14 : x13.length = ([] : (List Bool)).length + a0.Begun.length := by rw [h14, List.length_append]
   try simp only [List.length_cons, List.length_nil, Nat.zero_add] at lh14
   have q18 := oa0.2.2.2.2.1.1
   refine tB (tA Zlj (by decide)) (fun x16 h17 => ?_)
   have lh17 : x16.length = ([] : (List (List Int))).length + a0.Sets.length := by rw [h17, List.length_append]
   try simp only [List.length_cons, List.length_nil, Nat.zero_add] at lh17
   have q21 := oa0.2.2.2.2.2.1
   refine tB (tA Zlj (by decide)) (fun x19 h20 => ?_)
   have lh20 : x19.length = ([] : (List Bool)).length + a0.Blank.length := by rw [h20, List.length_append]
   try simp only [List.length_cons, List.length_nil, Nat.zero_add] at lh20
   refine tB (tI (by omega) (by omega)) (fun x22 h23 => ?_)
   refine tB (Tot.set (by omega) (by omega)) (fun x24 h25 => ?_)
   have lh25 := h25.1
   refine tB (tI (by omega) (by omega)) (fun x26 h27 => ?_)
   have oh27 : (SzL 8 (fun _ => True)) x26 := (SzL.app (k := 24) h17 lo (fun _ h => by cases h) oa0.2.2.2.2.1.2).2 x26 h27.1
   refine tB (Tot.set (by omega) (by omega)) (fun x28 h29 => ?_)
   have lh29 := h29.1
   exact tL ⟨rfl, oa0, ⟨⟨SzL.nil, SzL.nil, SzL.nil, SzL.nil, SzL.nil, SzL.nil, SzL.nil, SzL.nil⟩, SzL.nil, SzL.nil, SzL.nil, SzL.nil, SzL.nil⟩, h5, h7.1, ⟨oa0.1, (SzL.app (k := 176) h11 lo (fun _ h => by cases h) oa0.2.1.2), oa0.2.2.1, ⟨lo, fun _ _ => trivial⟩, ⟨lo, fun e he => (h29.2.1 e he).elim (fun w => by rw [w]; exact h5) ((SzL.app (k := 24) h17 lo (fun _ h => by cases h) oa0.2.2.2.2.1.2).2 e)⟩, ⟨lo, fun _ _ => trivial⟩⟩, cl, cl, cl, cl, cl, cl, cl, cl, cl, cl, cl, cl, cl, cl, cl, (by assumption)⟩ tk71
 ·intro s hs
  cases s with
  | L0 v1 v2 E0 E1 v7 v8 v9 E2 v11 =>
   obtain ⟨al0, O0, O1, ov7, ov8, O2, cv11, i0, i1, i2, i3, i4, i5, i6, i7, i8, i9, i10, i11, i12, i13, i14⟩ := hs
   have lb_v7 := ov7.1
   have lb_v8 := ov8.1
   subst al0
   show Tot (Zqw v1 v2 E0 E1 v7 v8 v9 E2 v11).den _
   dsimp only [Zqw, LT.den]
   have q1 := O0.1.2.1.1
   refine tD (fun h2 => ?_) (fun h2 => ?_)
   ·refine tB (tI (by omega) (by omega)) (fun x3 h4 => ?_)
    refine tB (Zae1 v7 x3.Id ov7) (fun x5 h6 => ?_)
    have eh6_0 := h6
    refine tO (fun h7 => ?_) (fun h7 => ?_)
    ·refine qw (v11 + 1) fun q8 q9 => ?_
     exact tL ⟨rfl, O0, O1, ov7, ov8, O2, cl, cl, cl, cl, cl, cl, cl, cl, cl, cl, cl, cl, cl, cl, cl, (by assumption)⟩ tk71
    ·refine tB (tI (by omega) (by omega)) (fun x10 h11 => ?_)
     have oh11 : Zv x10 := O0.2.1.2 x10 h11.1
     refine tB (tI (by omega) (by omega)) (fun x12 h13 => ?_)
     have oh13 : Z7 x12 := O0.2.2.1.2 x12 h13.1
     have mh13 := h13.2
     refine tB (Zahd x10 x12 v2 v9 v8 oh11 oh13 ov8 (by grind)) (fun x14 h15 => ?_)
     refine tB (tI (by omega) (by omega)) (fun x16 h17 => ?_)
     have oh17 : Zv x16 := O2.2.1.2 x16 h17.1
     refine tB (Tot.set (by omega) (by omega)) (fun x18 h19 => ?_)
     have lh19 := h19.1
     refine tB (Zarp x12 v2 oh13) (fun x20 h21 => ?_)
     refine tF (fun h22 => ?_) (fun h22 => ?_)
     ·refine tB (tI (by omega) (by omega)) (fun x23 h24 => ?_)
      refine tB (Tot.set (by omega) (by omega)) (fun x25 h26 => ?_)
      have lh26 := h26.1
      refine qw (v11 + 1) fun q27 q28 => ?_
      exact tL ⟨rfl, O0, O1, ov7, ov8, ⟨O2.1, ⟨lo, fun e he => (h19.2.1 e he).elim (fun w => by rw [w]; exact h15) (O2.2.1.2 e)⟩, O2.2.2.1, O2.2.2.2.1, O2.2.2.2.2.1, ⟨lo, fun _ _ => trivial⟩⟩, cl, cl, cl, cl, cl, cl, cl, cl, cl, cl, cl, cl, cl, cl, cl, (by assumption)⟩ tk71
     ·refine qw (v11 + 1) fun q29 q30 => ?_
      exact tL ⟨rfl, O0, O1, ov7, ov8, ⟨O2.1, ⟨lo, fun e he => (h19.2.1 e he).elim (fun w => by rw [w]; exact h15) (O2.2.1.2 e)⟩, O2.2.2.1, O2.2.2.2.1, O2.2.2.2.2.1, O2.2.2.2.2.2⟩, cl, cl, cl, cl, cl, cl, cl, cl, cl, cl, cl, cl, cl, cl, cl, (by assumption)⟩ tk71
   ·exact tR ⟨O2, cl, cl, cl, cl, cl, cl⟩
theorem Zarq (a0 : Zc) (a1 : Int) (a2 : Int) (a3 : Int) (oa0 : Zw a0) (h0 : a0.All.length = a0.S.Objects.length) (h1 : a0.Blank.length = a0.S.Objects.length) (h2 : a0.Begun.length = a0.L.length) (h3 : a0.Sets.length = a0.L.length) (h4 : a0.S.Objects.length ≤ 60) (h5 : a0.L.length ≤ 10000) (h6 : 0 ≤ a1) (h7 : a1 < a0.L.length) (h8 : 0 ≤ a2) (h9 : a2 < a0.L.length) : Tot (Z97 a0 a1 a2 a3) (fun r => True) := by
 unfold Z97
 refine tZ ?_
 dsimp only [Zaei, LT.den]
 refine tE (fun h1 => ?_) (fun h1 => ?_)
 ·exact tR trivial
 ·refine tB (Zzx a0 a2 a3 oa0 cl cl cl cl cl cl cl cl) (fun x2 h3 => ?_)
  have eh3_1 := h3.2.1
  have eh3_2 := h3.2.2.1
  have eh3_3 := h3.2.2.2.1
  have eh3_4 := h3.2.2.2.2.1
  have eh3_5 := h3.2.2.2.2.2.1
  have eh3_6 := h3.2.2.2.2.2.2
  refine tB (Zk8 a0 a1 oa0 cl cl cl cl cl cl cl cl) (fun x4 h5 => ?_)
  refine tB (Zk8 x2 a1 h3.1 cl cl cl cl cl cl cl cl) (fun x6 h7 => ?_)
  refine tO (fun h8 => ?_) (fun h8 => ?_)
  ·exact tR trivial
  ·refine tB (Zpz a0 a1 oa0 cl cl cl cl cl cl cl cl) (fun x9 h10 => ?_)
   refine tB (Zpz x2 a1 h3.1 cl cl cl cl cl cl cl cl) (fun x11 h12 => ?_)
   refine tB (Zg2 x9 x11 h10 h12) (fun x13 h14 => ?_)
   have eh14_0 := h14
   refine tO (fun h15 => ?_) (fun h15 => ?_)
   ·exact tR trivial
   ·refine tB (Zp0 a0 a1 a3 oa0 cl cl cl cl cl cl cl cl) (fun x16 h17 => ?_)
    have eh17_1 := h17.2
    refine tB (Zp0 x2 a1 a3 h3.1 cl cl cl cl cl cl cl cl) (fun x18 h19 => ?_)
    have eh19_1 := h19.2
    refine tB (Zg2 x16 x18 h17.1 h19.1) (fun x20 h21 => ?_)
    have eh21_0 := h21
    exact tR trivial
def Zayc (a0 : (List Int)) (a1 : Int) : Zs5 → Prop
 | .L0 v0 v1 v5 => (v0 = a0) ∧ (v1 = a1) ∧ ((SzL 8 (fun _ => True)) v0) ∧ (0 ≤ v5) ∧ (∀ (k : Nat) x, (k : Int) < v5 → v0[k]? = some x → x ≠ v1)
def Z5n : Zs5 → M6
 | .L0 v0 v1 v5 => (1, ((v0.length : Int) - v5).toNat, 1000000, 0, 0, 0)
theorem Z1x (a0 : (List Int)) (a1 : Int) (oa0 : (SzL 8 (fun _ => True)) a0) : Tot (Zang a0 a1) (fun r => (r = true ↔ a1 ∈ a0)) := by
 unfold Zang
 refine tX (Inv := (Zayc a0 a1)) (μ := Z5n) (m := (1000000, 0, 0, 0, 0, 0)) ?_ ?_
 ·have lb_a0 := oa0.1
  dsimp only [Zapu, LT.den]
  exact tL ⟨rfl, rfl, oa0, cl, tk17⟩ (by unfold Z5n lt6; dsimp only; omega)
 ·intro s hs
  cases s with
  | L0 v0 v1 v5 =>
   obtain ⟨al0, al1, ov0, cv5, i0⟩ := hs
   have lb_v0 := ov0.1
   subst al0
   subst al1
   show Tot (Z4y v0 v1 v5).den _
   dsimp only [Z4y, LT.den]
   have q1 := ov0.1
   refine tD (fun h2 => ?_) (fun h2 => ?_)
   ·refine tB (tI (by omega) (by omega)) (fun x3 h4 => ?_)
    have mh4 := h4.2
    refine tE (fun h5 => ?_) (fun h5 => ?_)
    ·exact tR Zar9
    ·refine qw (v5 + 1) fun q6 q7 => ?_
     exact tL ⟨rfl, rfl, ov0, cl, tk17⟩ (by unfold Z5n lt6; dsimp only; omega)
   ·exact tR Zar9
abbrev Zacf (a0 : (List Int)) (r : (List Int)) : Prop := ((SzL 8 (fun _ => True)) r) ∧ (r.length ≤ a0.length) ∧ (r.Nodup ∧ ∀ x, x ∈ r → x ∈ a0 ∧ 0 ≤ x) ∧ (∀ x, x ∈ a0 → 0 ≤ x → x ∈ r)
def Zahf (a0 : (List Int)) : Zib → Prop
 | .L0 v0 v3 v4 => (v0 = a0) ∧ ((SzL 8 (fun _ => True)) v0) ∧ ((SzL 8 (fun _ => True)) v3) ∧ (0 ≤ v4) ∧ (v3.length ≤ v4.toNat) ∧ (v4.toNat ≤ v0.length) ∧ (v3.Nodup ∧ ∀ x, x ∈ v3 → x ∈ v0 ∧ 0 ≤ x) ∧ (∀ (k : Nat) x, (k : Int) < v4 → v0[k]? = some x → 0 ≤ x → x ∈ v3)
def Zzy : Zib → M6
 | .L0 v0 v3 v4 => (1, ((v0.length : Int) - v4).toNat, 1000000, 0, 0, 0)
theorem Zahg (a0 : (List Int)) (oa0 : (SzL 8 (fun _ => True)) a0) : Tot (Zph a0) (Zacf a0) := by
 unfold Zph
 refine tX (Inv := (Zahf a0)) (μ := Zzy) (m := (1000000, 0, 0, 0, 0, 0)) ?_ ?_
 ·have lb_a0 := oa0.1
  dsimp only [Z3b, LT.den]
  exact tL ⟨rfl, oa0, SzL.nil, cl, cl, cl, (by first | exact ⟨List.nodup_nil, fun x hx => nomatch hx⟩ | assumption | (refine ⟨?_, fun x hx => ?_⟩ <;> grind [Zk1])), tk18⟩ tk64
 ·intro s hs
  cases s with
  | L0 v0 v3 v4 =>
   obtain ⟨al0, ov0, ov3, cv4, i0, i1, i2, i3⟩ := hs
   have lb_v0 := ov0.1
   have lb_v3 := ov3.1
   subst al0
   show Tot (Zpg v0 v3 v4).den _
   dsimp only [Zpg, LT.den]
   have q1 := ov0.1
   refine tD (fun h2 => ?_) (fun h2 => ?_)
   ·refine tB (tI (by omega) (by omega)) (fun x3 h4 => ?_)
    have mh4 := h4.2
    refine tD (fun h5 => ?_) (fun h5 => ?_)
    ·refine tB (Z1x v3 x3 ov3) (fun x6 h7 => ?_)
     have eh7_0 := h7
     refine tO (fun h8 => ?_) (fun h8 => ?_)
     ·have q9 : (SzL 8 (fun _ => True)) ([x3] : (List Int)) := ⟨by simp only [List.length_cons, List.length_nil]; omega, fun _ _ => trivial⟩
      have q12 := ov3.1
      refine tB (tA Zc5 (by decide)) (fun x10 h11 => ?_)
      have lh11 : x10.length = v3.length + 1 := by rw [h11, List.length_append]; rfl
      refine qw (v4 + 1) fun q13 q14 => ?_
      exact tL ⟨rfl, ov0, ⟨lo, fun _ _ => trivial⟩, cl, cl, cl, (by first | exact ⟨List.nodup_nil, fun x hx => nomatch hx⟩ | assumption | (refine ⟨?_, fun x hx => ?_⟩ <;> grind [Zk1])), tk18⟩ tk64
     ·refine qw (v4 + 1) fun q15 q16 => ?_
      exact tL ⟨rfl, ov0, ov3, cl, cl, cl, (by first | exact ⟨List.nodup_nil, fun x hx => nomatch hx⟩ | assumption | (refine ⟨?_, fun x hx => ?_⟩ <;> grind [Zk1])), tk18⟩ tk64
    ·refine qw (v4 + 1) fun q17 q18 => ?_
     exact tL ⟨rfl, ov0, ov3, cl, cl, cl, (by first | exact ⟨List.nodup_nil, fun x hx => nomatch hx⟩ | assumption | (refine ⟨?_, fun x hx => ?_⟩ <;> grind [Zk1])), tk18⟩ tk64
   ·exact tR ⟨ov3, cl, (by assumption), (by intro x hx h0; obtain ⟨k, hk⟩ := List.mem_iff_getElem?.1 hx; grind)⟩
theorem Zye (a0 : (List (List Bool))) (a1 : Int) (a2 : Int) (oa0 : (SzL 24 (SzL 1 (fun _ => True))) a0) (h0 : 0 ≤ a1) (h1 : 0 ≤ a2) : Tot (Zagm a0 a1 a2) (fun r => (r = nB a0 a1 a2)) := by
 unfold Zagm
 refine tZ ?_
 have lb_a0 := oa0.1
 dsimp only [Zak1, LT.den]
 have q1 := oa0.1
 refine tD (fun h2 => ?_) (fun h2 => ?_)
 ·refine tB (tI (by omega) (by omega)) (fun x3 h4 => ?_)
  have oh4 : (SzL 1 (fun _ => True)) x3 := oa0.2 x3 h4.1
  have q5 := oh4.1
  refine tD (fun h6 => ?_) (fun h6 => ?_)
  ·refine tB (tI (by omega) (by omega)) (fun x7 h8 => ?_)
   exact tR (by unfold nB; grind)
  ·exact tR (by unfold nB; grind)
 ·exact tR (by unfold nB; grind)
abbrev Zahh (a0 : (List Int)) (a1 : (List (List Bool))) (a2 : Int) (r : (List Int)) : Prop := ((SzL 8 (fun _ => True)) r) ∧ (Rch a0 (fun x y => nB a1 x y = true) a2 r)
def Zal2 (a0 : (List Int)) (a1 : (List (List Bool))) (a2 : Int) : Zfy → Prop
 | .L0 v0 v1 v2 v7 v8 => (v0 = a0) ∧ (v1 = a1) ∧ (v2 = a2) ∧ ((SzL 8 (fun _ => True)) v0) ∧ ((SzL 24 (SzL 1 (fun _ => True))) v1) ∧ ((SzL 8 (fun _ => True)) v7) ∧ (0 ≤ v8) ∧ (∀ x, x ∈ v0 → 0 ≤ x) ∧ (v0.Nodup) ∧ (v0.length ≤ 10000) ∧ (0 ≤ v2) ∧ (RA v0 v1 v2 v7 v8)
 | .L1 v0 v1 v7 v9 => (v0 = a0) ∧ (v1 = a1) ∧ ((SzL 8 (fun _ => True)) v0) ∧ ((SzL 24 (SzL 1 (fun _ => True))) v1) ∧ ((SzL 8 (fun _ => True)) v7) ∧ (0 ≤ v9) ∧ (∀ x, x ∈ v0 → 0 ≤ x) ∧ (v0.Nodup) ∧ (v0.length ≤ 10000) ∧ (RB v0 v1 a2 v7 v9)
 | .L2 v0 v1 v7 v9 v10 => (v0 = a0) ∧ (v1 = a1) ∧ ((SzL 8 (fun _ => True)) v0) ∧ ((SzL 24 (SzL 1 (fun _ => True))) v1) ∧ ((SzL 8 (fun _ => True)) v7) ∧ (0 ≤ v10) ∧ (0 ≤ v9) ∧ (v9 < (v7.length : Int)) ∧ (∀ x, x ∈ v0 → 0 ≤ x) ∧ (v0.Nodup) ∧ (v0.length ≤ 10000) ∧ (RC v0 v1 a2 v7 v9 v10)
def Z3t : Zfy → M6
 | .L0 v0 v1 v2 v7 v8 => (3, ((v0.length : Int) - v8).toNat, 1000000, 0, 0, 0)
 | .L1 v0 v1 v7 v9 => (1, ((v0.length : Int) - v9).toNat, 1000000, 0, 0, 0)
 | .L2 v0 v1 v7 v9 v10 => (1, ((v0.length : Int) - v9).toNat, 1, ((v0.length : Int) - v10).toNat, 1000000, 0)
theorem Zzz (a0 : (List Int)) (a1 : (List (List Bool))) (a2 : Int) (oa0 : (SzL 8 (fun _ => True)) a0) (oa1 : (SzL 24 (SzL 1 (fun _ => True))) a1) (h0 : 0 ≤ a2) (h1 : ∀ x, x ∈ a0 → 0 ≤ x) (h2 : a0.Nodup) (h3 : a0.length ≤ 10000) : Tot (Zrr a0 a1 a2) (Zahh a0 a1 a2) := by
 unfold Zrr
 refine tX (Inv := (Zal2 a0 a1 a2)) (μ := Z3t) (m := (1000000, 0, 0, 0, 0, 0)) ?_ ?_
 ·have lb_a0 := oa0.1
  have lb_a1 := oa1.1
  dsimp only [Z6s, LT.den]
  exact tL ⟨rfl, rfl, rfl, oa0, oa1, SzL.nil, cl, (by assumption), (by assumption), cl, (by assumption), (by first | exact RA_0 | (refine Zate (by assumption) (by assumption) (by assumption) (by assumption) (by assumption) ?_ ?_ <;> grind) | (refine Zamw (by assumption) (by assumption) (by assumption) ?_ ?_ <;> grind))⟩ Z5c
 ·intro s hs
  cases s with
  | L0 v0 v1 v2 v7 v8 =>
   obtain ⟨al0, al1, al2, ov0, ov1, ov7, cv8, i0, i1, i2, i3, i4⟩ := hs
   have lb_v0 := ov0.1
   have lb_v1 := ov1.1
   have lb_v7 := ov7.1
   subst al0
   subst al1
   subst al2
   show Tot (Zqx v0 v1 v2 v7 v8).den _
   dsimp only [Zqx, LT.den]
   have li := i4.1.len
   have q1 := ov0.1
   refine tD (fun h2 => ?_) (fun h2 => ?_)
   ·refine tB (tI (by omega) (by omega)) (fun x3 h4 => ?_)
    have mh4 := h4.2
    refine tB (Zye v1 v2 x3 ov1 Ziw Ziw) (fun x5 h6 => ?_)
    have eh6_0 := h6
    refine tF (fun h7 => ?_) (fun h7 => ?_)
    ·have q8 : (SzL 8 (fun _ => True)) ([x3] : (List Int)) := ⟨by simp only [List.length_cons, List.length_nil]; omega, fun _ _ => trivial⟩
     have q11 := ov7.1
     refine tB (tA Zc5 (by decide)) (fun x9 h10 => ?_)
     have lh10 : x9.length = v7.length + 1 := by rw [h10, List.length_append]; rfl
     refine qw (v8 + 1) fun q12 q13 => ?_
     exact tL ⟨rfl, rfl, rfl, ov0, ov1, ⟨lo, fun _ _ => trivial⟩, cl, (by assumption), (by assumption), cl, (by assumption), (by first | exact RA_0 | (refine Zate (by assumption) (by assumption) (by assumption) (by assumption) (by assumption) ?_ ?_ <;> grind) | (refine Zamw (by assumption) (by assumption) (by assumption) ?_ ?_ <;> grind))⟩ Z5c
    ·refine qw (v8 + 1) fun q14 q15 => ?_
     exact tL ⟨rfl, rfl, rfl, ov0, ov1, ov7, cl, (by assumption), (by assumption), cl, (by assumption), (by first | exact RA_0 | (refine Zate (by assumption) (by assumption) (by assumption) (by assumption) (by assumption) ?_ ?_ <;> grind) | (refine Zamw (by assumption) (by assumption) (by assumption) ?_ ?_ <;> grind))⟩ Z5c
   ·exact tL ⟨rfl, rfl, ov0, ov1, ov7, cl, (by assumption), (by assumption), cl, tk31⟩ Z5c
  | L1 v0 v1 v7 v9 =>
   obtain ⟨al0, al1, ov0, ov1, ov7, cv9, i0, i1, i2, i3⟩ := hs
   have lb_v0 := ov0.1
   have lb_v1 := ov1.1
   have lb_v7 := ov7.1
   subst al0
   subst al1
   show Tot (Zqy v0 v1 v7 v9).den _
   dsimp only [Zqy, LT.den]
   have li := i3.1.len
   have q1 := ov7.1
   refine tD (fun h2 => ?_) (fun h2 => ?_)
   ·exact tL ⟨rfl, rfl, ov0, ov1, ov7, cl, cl, cl, (by assumption), (by assumption), cl, (by first | exact RC_0 (by assumption) | (refine Zaim (by assumption) (by assumption) (by assumption) (by assumption) (by assumption) (by assumption) ?_ ?_ ?_ <;> grind) | (refine Zabw (by assumption) (by assumption) (by assumption) (by assumption) ?_ ?_ <;> grind))⟩ Z5c
   ·exact tR ⟨ov7, (by exact Za76 (by assumption) (by omega))⟩
  | L2 v0 v1 v7 v9 v10 =>
   obtain ⟨al0, al1, ov0, ov1, ov7, cv10, cv9, bd7, i0, i1, i2, i3⟩ := hs
   have lb_v0 := ov0.1
   have lb_v1 := ov1.1
   have lb_v7 := ov7.1
   subst al0
   subst al1
   show Tot (Zqz v0 v1 v7 v9 v10).den _
   dsimp only [Zqz, LT.den]
   have lx_0 : v7.length * 8 ≤ 140737488351232 := ov7.1
   have li := i3.1.1.len
   have q1 := ov0.1
   refine tD (fun h2 => ?_) (fun h2 => ?_)
   ·refine tB (tI (by omega) (by omega)) (fun x3 h4 => ?_)
    have mh4 := h4.2; have ch4 : x3 ∈ v0 := i3.1.1.2.1 _ h4.1
    refine tB (tI (by omega) (by omega)) (fun x5 h6 => ?_)
    have mh6 := h6.2
    refine tB (Zye v1 x3 x5 ov1 Ziw Ziw) (fun x7 h8 => ?_)
    have eh8_0 := h8
    refine tF (fun h9 => ?_) (fun h9 => ?_)
    ·refine tB (Z1x v7 x5 ov7) (fun x10 h11 => ?_)
     have eh11_0 := h11
     refine tO (fun h12 => ?_) (fun h12 => ?_)
     ·have q13 : (SzL 8 (fun _ => True)) ([x5] : (List Int)) := ⟨by simp only [List.length_cons, List.length_nil]; omega, fun _ _ => trivial⟩
      have q16 := ov7.1
      refine tB (tA Zc5 (by decide)) (fun x14 h15 => ?_)
      have lh15 : x14.length = v7.length + 1 := by rw [h15, List.length_append]; rfl
      refine qw (v10 + 1) fun q17 q18 => ?_
      exact tL ⟨rfl, rfl, ov0, ov1, ⟨lo, fun _ _ => trivial⟩, cl, cl, cl, (by assumption), (by assumption), cl, (by first | exact RC_0 (by assumption) | (refine Zaim (by assumption) (by assumption) (by assumption) (by assumption) (by assumption) (by assumption) ?_ ?_ ?_ <;> grind) | (refine Zabw (by assumption) (by assumption) (by assumption) (by assumption) ?_ ?_ <;> grind))⟩ Z5c
     ·refine qw (v10 + 1) fun q19 q20 => ?_
      exact tL ⟨rfl, rfl, ov0, ov1, ov7, cl, cl, cl, (by assumption), (by assumption), cl, (by first | exact RC_0 (by assumption) | (refine Zaim (by assumption) (by assumption) (by assumption) (by assumption) (by assumption) (by assumption) ?_ ?_ ?_ <;> grind) | (refine Zabw (by assumption) (by assumption) (by assumption) (by assumption) ?_ ?_ <;> grind))⟩ Z5c
    ·refine qw (v10 + 1) fun q21 q22 => ?_
     exact tL ⟨rfl, rfl, ov0, ov1, ov7, cl, cl, cl, (by assumption), (by assumption), cl, (by first | exact RC_0 (by assumption) | (refine Zaim (by assumption) (by assumption) (by assumption) (by assumption) (by assumption) (by assumption) ?_ ?_ ?_ <;> grind) | (refine Zabw (by assumption) (by assumption) (by assumption) (by assumption) ?_ ?_ <;> grind))⟩ Z5c
   ·refine qw (v9 + 1) fun q23 q24 => ?_
    exact tL ⟨rfl, rfl, ov0, ov1, ov7, cl, (by assumption), (by assumption), cl, tk31⟩ Z5c
abbrev Zaoh (a0 : (List Int)) (a1 : (List (List Bool))) (r : (List Int)) : Prop := ((SzL 8 (fun _ => True)) r) ∧ (∀ x, x ∈ r → x ∈ a0 ∧ 0 ≤ x) ∧ (∀ x, x ∈ a0 → 0 ≤ x → r ≠ [])
def Zarr (a0 : (List Int)) (a1 : (List (List Bool))) : Zjr → Prop
 | .L0 v1 v5 v6 v7 => (v1 = a1) ∧ ((SzL 24 (SzL 1 (fun _ => True))) v1) ∧ ((SzL 8 (fun _ => True)) v5) ∧ ((SzL 8 (fun _ => True)) v6) ∧ (0 ≤ v7) ∧ (∀ x, x ∈ v5 → x ∈ a0 ∧ 0 ≤ x) ∧ (∀ x, x ∈ a0 → 0 ≤ x → x ∈ v5) ∧ (v5.Nodup) ∧ (v5.length ≤ 10000) ∧ (v6.length ≤ v7.toNat) ∧ (∀ x, x ∈ v6 → x ∈ v5) ∧ (∀ (k : Nat) x, (k : Int) < v7 → v5[k]? = some x → RD v5 v1 x → x ∈ v6)
 | .L1 v1 v5 v6 v7 v8 v9 => (v1 = a1) ∧ ((SzL 24 (SzL 1 (fun _ => True))) v1) ∧ ((SzL 8 (fun _ => True)) v5) ∧ ((SzL 8 (fun _ => True)) v6) ∧ (0 ≤ v9) ∧ (0 ≤ v7) ∧ (v7 < (v5.length : Int)) ∧ (∀ x, x ∈ v5 → x ∈ a0 ∧ 0 ≤ x) ∧ (∀ x, x ∈ a0 → 0 ≤ x → x ∈ v5) ∧ (v5.Nodup) ∧ (v5.length ≤ 10000) ∧ (v6.length ≤ v7.toNat) ∧ (∀ x, x ∈ v6 → x ∈ v5) ∧ (∀ (k : Nat) x, (k : Int) < v7 → v5[k]? = some x → RD v5 v1 x → x ∈ v6) ∧ (∀ x, v5[v7.toNat]? = some x → RD v5 v1 x → v8 = true)
def Zabe : Zjr → M6
 | .L0 v1 v5 v6 v7 => (1, ((v5.length : Int) - v7).toNat, 1000000, 0, 0, 0)
 | .L1 v1 v5 v6 v7 v8 v9 => (1, ((v5.length : Int) - v7).toNat, 1, ((v5.length : Int) - v9).toNat, 1000000, 0)
theorem Zars (a0 : (List Int)) (a1 : (List (List Bool))) (oa0 : (SzL 8 (fun _ => True)) a0) (oa1 : (SzL 24 (SzL 1 (fun _ => True))) a1) (h0 : a0.length ≤ 10000) : Tot (Zzm a0 a1) (Zaoh a0 a1) := by
 unfold Zzm
 refine tX (Inv := (Zarr a0 a1)) (μ := Zabe) (m := (1000000, 0, 0, 0, 0, 0)) ?_ ?_
 ·have lb_a0 := oa0.1
  have lb_a1 := oa1.1
  dsimp only [Zaek, LT.den]
  refine tB (Zahg a0 oa0) (fun x1 h2 => ?_)
  have eh2_1 := h2.2.1
  have eh2_2 := h2.2.2.1
  have eh2_3 := h2.2.2.2
  exact tL ⟨rfl, oa1, h2.1, SzL.nil, cl, Zau, Zau, Zau, cl, cl, tk50, tk9⟩ tk89
 ·intro s hs
  cases s with
  | L0 v1 v5 v6 v7 =>
   obtain ⟨al0, ov1, ov5, ov6, cv7, i0, i1, i2, i3, i4, i5, i6⟩ := hs
   have lb_v1 := ov1.1
   have lb_v5 := ov5.1
   have lb_v6 := ov6.1
   subst al0
   show Tot (Zxn v1 v5 v6 v7).den _
   dsimp only [Zxn, LT.den]
   have q1 := ov5.1
   refine tD (fun h2 => ?_) (fun h2 => ?_)
   ·exact tL ⟨rfl, ov1, ov5, ov6, cl, cl, cl, Zau, Zau, Zau, cl, cl, Zau, Zau, tk1⟩ tk89
   ·exact tR ⟨ov6, (by grind), (by exact Za4t (by assumption) (by assumption) (by assumption) (by omega) (by omega) (fun y hy => (Zzz v5 v1 y ov5 ov1 (i0 y hy).2 (fun x hx => (i0 x hx).2) (by assumption) (by assumption)).imp fun r h => h.2.2))⟩
  | L1 v1 v5 v6 v7 v8 v9 =>
   obtain ⟨al0, ov1, ov5, ov6, cv9, cv7, bd6, i0, i1, i2, i3, i4, i5, i6, i7⟩ := hs
   have lb_v1 := ov1.1
   have lb_v5 := ov5.1
   have lb_v6 := ov6.1
   subst al0
   show Tot (Zxo v1 v5 v6 v7 v8 v9).den _
   dsimp only [Zxo, LT.den]
   have lx_0 : v5.length * 8 ≤ 140737488351232 := ov5.1
   have q1 := ov5.1
   refine tD (fun h2 => ?_) (fun h2 => ?_)
   ·refine tN (fun h3 => ?_) (fun h3 => ?_)
    ·refine tB (tI (by omega) (by omega)) (fun x4 h5 => ?_)
     have mh5 := h5.2; have ch5 := i0 _ h5.1
     refine tB (tI (by omega) (by omega)) (fun x6 h7 => ?_)
     have mh7 := h7.2; have ch7 := i0 _ h7.1
     refine tB (Zye v1 x4 x6 ov1 Ziw Ziw) (fun x8 h9 => ?_)
     have eh9_0 := h9
     refine tF (fun h10 => ?_) (fun h10 => ?_)
     ·refine tB (Zzz v5 v1 x6 ov5 ov1 cl Zau Zau cl) (fun x11 h12 => ?_)
      have eh12_1 := h12.2
      refine tB (Z1x x11 x4 h12.1) (fun x13 h14 => ?_)
      have eh14_0 := h14
      refine tO (fun h15 => ?_) (fun h15 => ?_)
      ·refine qw (v9 + 1) fun q16 q17 => ?_
       exact tL ⟨rfl, ov1, ov5, ov6, cl, cl, cl, Zau, Zau, Zau, cl, cl, Zau, Zau, tk1⟩ tk89
      ·refine qw (v9 + 1) fun q18 q19 => ?_
       exact tL ⟨rfl, ov1, ov5, ov6, cl, cl, cl, Zau, Zau, Zau, cl, cl, Zau, Zau, tk1⟩ tk89
     ·refine qw (v9 + 1) fun q20 q21 => ?_
      exact tL ⟨rfl, ov1, ov5, ov6, cl, cl, cl, Zau, Zau, Zau, cl, cl, Zau, Zau, tk1⟩ tk89
    ·refine qw (v9 + 1) fun q22 q23 => ?_
     exact tL ⟨rfl, ov1, ov5, ov6, cl, cl, cl, Zau, Zau, Zau, cl, cl, Zau, Zau, tk1⟩ tk89
   ·refine tF (fun h24 => ?_) (fun h24 => ?_)
    ·refine tB (tI (by omega) (by omega)) (fun x25 h26 => ?_)
     have mh26 := h26.2; have ch26 := i0 _ h26.1
     have q27 : (SzL 8 (fun _ => True)) ([x25] : (List Int)) := ⟨by simp only [List.length_cons, List.length_nil]; omega, fun _ _ => trivial⟩
     have q30 := ov6.1
     refine tB (tA Zc5 (by decide)) (fun x28 h29 => ?_)
     have lh29 : x28.length = v6.length + 1 := by rw [h29, List.length_append]; rfl
     refine qw (v7 + 1) fun q31 q32 => ?_
     exact tL ⟨rfl, ov1, ov5, ⟨lo, fun _ _ => trivial⟩, cl, Zau, Zau, Zau, cl, cl, tk50, tk9⟩ tk89
    ·refine qw (v7 + 1) fun q33 q34 => ?_
     exact tL ⟨rfl, ov1, ov5, ov6, cl, Zau, Zau, Zau, cl, cl, tk50, tk9⟩ tk89
theorem Zuu (a0 : (List Int)) (a1 : Int) (oa0 : (SzL 8 (fun _ => True)) a0) (h0 : 0 ≤ a1) : Tot (Z98 a0 a1) (fun r => True) := by
 unfold Z98
 refine tZ ?_
 have lb_a0 := oa0.1
 dsimp only [Zaem, LT.den]
 have q1 := oa0.1
 refine tD (fun h2 => ?_) (fun h2 => ?_)
 ·refine tB (tI (by omega) (by omega)) (fun x3 h4 => ?_)
  exact tR trivial
 ·exact tR trivial
def Zawv (a0 : (List Int)) (a1 : (List Int)) (a2 : (List (List Bool))) : Zpi → Prop
 | .L0 v1 v7 v8 v9 => (v1 = a1) ∧ ((SzL 8 (fun _ => True)) v1) ∧ ((SzL 8 (fun _ => True)) v7) ∧ (0 ≤ v9) ∧ (∀ x, x ∈ v7 → x ∈ a0 ∧ 0 ≤ x) ∧ (∀ x, x ∈ a0 → 0 ≤ x → v7 ≠ []) ∧ ((v9 = 0 ∧ v8 = -1) ∨ v8 ∈ v7)
def Zae4 : Zpi → M6
 | .L0 v1 v7 v8 v9 => (1, ((v7.length : Int) - v9).toNat, 1000000, 0, 0, 0)
theorem Zaww (a0 : (List Int)) (a1 : (List Int)) (a2 : (List (List Bool))) (oa0 : (SzL 8 (fun _ => True)) a0) (oa1 : (SzL 8 (fun _ => True)) a1) (oa2 : (SzL 24 (SzL 1 (fun _ => True))) a2) (h0 : a0.length ≤ 10000) : Tot (Zagn a0 a1 a2) (fun r => (∀ x, x ∈ a0 → 0 ≤ x → r ∈ a0 ∧ 0 ≤ r)) := by
 unfold Zagn
 refine tX (Inv := (Zawv a0 a1 a2)) (μ := Zae4) (m := (1000000, 0, 0, 0, 0, 0)) ?_ ?_
 ·have lb_a0 := oa0.1
  have lb_a1 := oa1.1
  have lb_a2 := oa2.1
  dsimp only [Zak4, LT.den]
  refine tB (Zars a0 a2 oa0 oa2 cl) (fun x1 h2 => ?_)
  have eh2_1 := h2.2.1
  have eh2_2 := h2.2.2
  exact tL ⟨rfl, oa1, h2.1, cl, Zau, Zau, tk55⟩ tk96
 ·intro s hs
  cases s with
  | L0 v1 v7 v8 v9 =>
   obtain ⟨al0, ov1, ov7, cv9, i0, i1, i2⟩ := hs
   have lb_v1 := ov1.1
   have lb_v7 := ov7.1
   subst al0
   show Tot (Z1e v1 v7 v8 v9).den _
   dsimp only [Z1e, LT.den]
   have q1 := ov7.1
   refine tD (fun h2 => ?_) (fun h2 => ?_)
   ·refine tB (tI (by omega) (by omega)) (fun x3 h4 => ?_)
    have mh4 := h4.2; have ch4 := i0 _ h4.1
    refine tB (Zuu v1 x3 ov1 Ziw) (fun x5 h6 => ?_)
    refine tD (fun h7 => ?_) (fun h7 => ?_)
    ·refine qw (v9 + 1) fun q8 q9 => ?_
     exact tL ⟨rfl, ov1, ov7, cl, Zau, Zau, tk55⟩ tk96
    ·refine tB (Zuu v1 v8 ov1 Ziw) (fun x10 h11 => ?_)
     refine tD (fun h12 => ?_) (fun h12 => ?_)
     ·refine qw (v9 + 1) fun q13 q14 => ?_
      exact tL ⟨rfl, ov1, ov7, cl, Zau, Zau, tk55⟩ tk96
     ·refine tB (Zuu v1 v8 ov1 Ziw) (fun x15 h16 => ?_)
      refine tE (fun h17 => ?_) (fun h17 => ?_)
      ·refine tD (fun h18 => ?_) (fun h18 => ?_)
       ·refine qw (v9 + 1) fun q19 q20 => ?_
        exact tL ⟨rfl, ov1, ov7, cl, Zau, Zau, tk55⟩ tk96
       ·refine qw (v9 + 1) fun q21 q22 => ?_
        exact tL ⟨rfl, ov1, ov7, cl, Zau, Zau, tk55⟩ tk96
      ·refine qw (v9 + 1) fun q23 q24 => ?_
       exact tL ⟨rfl, ov1, ov7, cl, Zau, Zau, tk55⟩ tk96
   ·exact tR (by intro x hx h0; have := List.length_pos_iff.2 (i1 x hx h0); grind)
def Zawx (a0 : Zc) (a1 : (List Int)) (a2 : Int) : Ziv → Prop
 | .L0 v1 v2 E0 v7 v8 v9 => (E0 = a0) ∧ (v1 = a1) ∧ ((SzL 8 (fun _ => True)) v1) ∧ (Zw E0) ∧ ((SzL 8 (fun _ => True)) v7) ∧ ((SzL 24 (SzL 1 (fun _ => True))) v8) ∧ (0 ≤ v9) ∧ (∀ x, x ∈ v1 → 0 ≤ x ∧ x < (E0.L.length : Int)) ∧ (E0.All.length = E0.S.Objects.length) ∧ (E0.Blank.length = E0.S.Objects.length) ∧ (E0.Begun.length = E0.L.length) ∧ (E0.Sets.length = E0.L.length) ∧ (E0.S.Objects.length ≤ 60) ∧ (E0.L.length ≤ 10000) ∧ (v1.length ≤ 10000) ∧ (v8.length = v9.toNat) ∧ (∀ y, y ∈ v8 → y.length = E0.L.length) ∧ (v9.toNat ≤ E0.L.length) ∧ (v7.length ≤ v9.toNat)
 | .L1 v1 v2 E0 v7 v8 v10 => (E0 = a0) ∧ (v1 = a1) ∧ ((SzL 8 (fun _ => True)) v1) ∧ (Zw E0) ∧ ((SzL 8 (fun _ => True)) v7) ∧ ((SzL 24 (SzL 1 (fun _ => True))) v8) ∧ (0 ≤ v10) ∧ (∀ x, x ∈ v1 → 0 ≤ x ∧ x < (E0.L.length : Int)) ∧ (E0.All.length = E0.S.Objects.length) ∧ (E0.Blank.length = E0.S.Objects.length) ∧ (E0.Begun.length = E0.L.length) ∧ (E0.Sets.length = E0.L.length) ∧ (E0.S.Objects.length ≤ 60) ∧ (E0.L.length ≤ 10000) ∧ (v1.length ≤ 10000) ∧ (v8.length = E0.L.length) ∧ (∀ y, y ∈ v8 → y.length = E0.L.length)
 | .L2 v1 v2 E0 v7 v8 v10 v11 => (E0 = a0) ∧ (v1 = a1) ∧ ((SzL 8 (fun _ => True)) v1) ∧ (Zw E0) ∧ ((SzL 8 (fun _ => True)) v7) ∧ ((SzL 24 (SzL 1 (fun _ => True))) v8) ∧ (0 ≤ v11) ∧ (0 ≤ v10) ∧ (v10 < (v1.length : Int)) ∧ (∀ x, x ∈ v1 → 0 ≤ x ∧ x < (E0.L.length : Int)) ∧ (E0.All.length = E0.S.Objects.length) ∧ (E0.Blank.length = E0.S.Objects.length) ∧ (E0.Begun.length = E0.L.length) ∧ (E0.Sets.length = E0.L.length) ∧ (E0.S.Objects.length ≤ 60) ∧ (E0.L.length ≤ 10000) ∧ (v1.length ≤ 10000) ∧ (v8.length = E0.L.length) ∧ (∀ y, y ∈ v8 → y.length = E0.L.length)
def Zae5 : Ziv → M6
 | .L0 v1 v2 E0 v7 v8 v9 => (3, ((E0.L.length : Int) - v9).toNat, 1000000, 0, 0, 0)
 | .L1 v1 v2 E0 v7 v8 v10 => (1, ((v1.length : Int) - v10).toNat, 1000000, 0, 0, 0)
 | .L2 v1 v2 E0 v7 v8 v10 v11 => (1, ((v1.length : Int) - v10).toNat, 1, ((v1.length : Int) - v11).toNat, 1000000, 0)
theorem Zawy (a0 : Zc) (a1 : (List Int)) (a2 : Int) (oa0 : Zw a0) (oa1 : (SzL 8 (fun _ => True)) a1) (h0 : a0.All.length = a0.S.Objects.length) (h1 : a0.Blank.length = a0.S.Objects.length) (h2 : a0.Begun.length = a0.L.length) (h3 : a0.Sets.length = a0.L.length) (h4 : a0.S.Objects.length ≤ 60) (h5 : a0.L.length ≤ 10000) (h6 : ∀ x, x ∈ a1 → 0 ≤ x ∧ x < (a0.L.length : Int)) (h7 : a1.length ≤ 10000) : Tot (Zago a0 a1 a2) (fun r => (∀ x, x ∈ a1 → r ∈ a1)) := by
 unfold Zago
 refine tX (Inv := (Zawx a0 a1 a2)) (μ := Zae5) (m := (1000000, 0, 0, 0, 0, 0)) ?_ ?_
 ·have lb_a1 := oa1.1
  dsimp only [Zak6, LT.den]
  exact tL ⟨rfl, rfl, oa1, oa0, SzL.nil, SzL.nil, cl, Zau, cl, cl, cl, cl, cl, cl, cl, cl, tk19, cl, cl⟩ tk97
 ·intro s hs
  cases s with
  | L0 v1 v2 E0 v7 v8 v9 =>
   obtain ⟨al0, al1, ov1, O0, ov7, ov8, cv9, i0, i1, i2, i3, i4, i5, i6, i7, i8, i9, i10, i11⟩ := hs
   have lb_v1 := ov1.1
   have lb_v7 := ov7.1
   have lb_v8 := ov8.1
   subst al0
   subst al1
   show Tot (Z1f v1 v2 E0 v7 v8 v9).den _
   dsimp only [Z1f, LT.den]
   have q1 := O0.2.2.1.1
   refine tD (fun h2 => ?_) (fun h2 => ?_)
   ·refine tB (tI (by omega) (by omega)) (fun x3 h4 => ?_)
    have oh4 : Z7 x3 := O0.2.2.1.2 x3 h4.1
    have q5 : (SzL 8 (fun _ => True)) ([x3.Stamp] : (List Int)) := ⟨by simp only [List.length_cons, List.length_nil]; omega, fun _ _ => trivial⟩
    have q8 := ov7.1
    refine tB (tA Zc5 (by decide)) (fun x6 h7 => ?_)
    have lh7 : x6.length = v7.length + 1 := by rw [h7, List.length_append]; rfl
    refine tB (Tot.make ⟨by omega, by omega, by omega, by omega⟩) (fun x9 h10 => ?_)
    have lh10 := h10.1
    have q11 : (SzL 24 (SzL 1 (fun _ => True))) ([x9] : (List (List Bool))) := ⟨by simp only [List.length_cons, List.length_nil]; omega, (mem_cons' ⟨lo, fun _ _ => trivial⟩ (fun _ h => by cases h))⟩
    have q14 := ov8.1
    refine tB (tA Zc5 (by decide)) (fun x12 h13 => ?_)
    have lh13 : x12.length = v8.length + 1 := by rw [h13, List.length_append]; rfl
    refine qw (v9 + 1) fun q15 q16 => ?_
    exact tL ⟨rfl, rfl, ov1, O0, ⟨lo, fun _ _ => trivial⟩, (SzL.app (k := 24) h13 lo ov8.2 q11.2), cl, Zau, cl, cl, cl, cl, cl, cl, cl, cl, tk19, cl, cl⟩ tk97
   ·exact tL ⟨rfl, rfl, ov1, O0, ov7, ov8, cl, Zau, cl, cl, cl, cl, cl, cl, cl, cl, tk19⟩ tk97
  | L1 v1 v2 E0 v7 v8 v10 =>
   obtain ⟨al0, al1, ov1, O0, ov7, ov8, cv10, i0, i1, i2, i3, i4, i5, i6, i7, i8, i9⟩ := hs
   have lb_v1 := ov1.1
   have lb_v7 := ov7.1
   have lb_v8 := ov8.1
   subst al0
   subst al1
   show Tot (Z1g v1 v2 E0 v7 v8 v10).den _
   dsimp only [Z1g, LT.den]
   have q1 := ov1.1
   refine tD (fun h2 => ?_) (fun h2 => ?_)
   ·exact tL ⟨rfl, rfl, ov1, O0, ov7, ov8, cl, cl, cl, Zau, cl, cl, cl, cl, cl, cl, cl, cl, tk19⟩ tk97
   ·refine tB (Zaww v1 v7 v8 ov1 ov7 ov8 cl) (fun x3 h4 => ?_)
    have eh4_0 := h4
    exact tR (by grind)
  | L2 v1 v2 E0 v7 v8 v10 v11 =>
   obtain ⟨al0, al1, ov1, O0, ov7, ov8, cv11, cv10, bd8, i0, i1, i2, i3, i4, i5, i6, i7, i8, i9⟩ := hs
   have lb_v1 := ov1.1
   have lb_v7 := ov7.1
   have lb_v8 := ov8.1
   subst al0
   subst al1
   show Tot (Z1h v1 v2 E0 v7 v8 v10 v11).den _
   dsimp only [Z1h, LT.den]
   have lx_0 : v1.length * 8 ≤ 140737488351232 := ov1.1
   have q1 := ov1.1
   refine tD (fun h2 => ?_) (fun h2 => ?_)
   ·refine tB (tI (by omega) (by omega)) (fun x3 h4 => ?_)
    have ch4 := i0 _ h4.1
    refine tB (tI (by omega) (by omega)) (fun x5 h6 => ?_)
    have oh6 : (SzL 1 (fun _ => True)) x5 := ov8.2 x5 h6.1
    have mh6 := h6.1; have nh6 := i9 _ h6.1
    refine tB (tI (by omega) (by omega)) (fun x7 h8 => ?_)
    have ch8 := i0 _ h8.1
    refine tB (Zarq E0 x3 x7 v2 O0 cl cl cl cl cl cl cl cl cl cl) (fun x9 h10 => ?_)
    refine tB (tI (by omega) (by omega)) (fun x11 h12 => ?_)
    refine tB (Tot.setM) (fun x13 h14 => ?_)
    have lh14 : x13.length = v8.length := by rw [h14, List.length_set]
    refine qw (v11 + 1) fun q15 q16 => ?_
    exact tL ⟨rfl, rfl, ov1, O0, ov7, (SzL.setM h14 ov8 oh6), cl, cl, cl, Zau, cl, cl, cl, cl, cl, cl, cl, cl, tk19⟩ tk97
   ·refine qw (v10 + 1) fun q17 q18 => ?_
    exact tL ⟨rfl, rfl, ov1, O0, ov7, ov8, cl, Zau, cl, cl, cl, cl, cl, cl, cl, cl, tk19⟩ tk97
abbrev Zahi (a0 : (List Int)) (a1 : Int) (r : (List Int)) : Prop := ((SzL 8 (fun _ => True)) r) ∧ (r = a0.filter fun y => y != a1)
def Zal3 (a0 : (List Int)) (a1 : Int) : Zjh → Prop
 | .L0 v0 v1 v5 v6 => (v0 = a0) ∧ (v1 = a1) ∧ ((SzL 8 (fun _ => True)) v0) ∧ ((SzL 8 (fun _ => True)) v5) ∧ (0 ≤ v6) ∧ (v5.length ≤ v6.toNat) ∧ (v6.toNat ≤ v0.length) ∧ (v5 = (v0.take v6.toNat).filter fun y => y != v1)
def Z3u : Zjh → M6
 | .L0 v0 v1 v5 v6 => (1, ((v0.length : Int) - v6).toNat, 1000000, 0, 0, 0)
theorem Zal4 (a0 : (List Int)) (a1 : Int) (oa0 : (SzL 8 (fun _ => True)) a0) : Tot (Z1i a0 a1) (Zahi a0 a1) := by
 unfold Z1i
 refine tX (Inv := (Zal3 a0 a1)) (μ := Z3u) (m := (1000000, 0, 0, 0, 0, 0)) ?_ ?_
 ·have lb_a0 := oa0.1
  dsimp only [Z6u, LT.den]
  exact tL ⟨rfl, rfl, oa0, SzL.nil, cl, cl, cl, tk8⟩ tk73
 ·intro s hs
  cases s with
  | L0 v0 v1 v5 v6 =>
   obtain ⟨al0, al1, ov0, ov5, cv6, i0, i1, i2⟩ := hs
   have lb_v0 := ov0.1
   have lb_v5 := ov5.1
   subst al0
   subst al1
   show Tot (Zq0 v0 v1 v5 v6).den _
   dsimp only [Zq0, LT.den]
   have q1 := ov0.1
   refine tD (fun h2 => ?_) (fun h2 => ?_)
   ·refine tB (tI (by omega) (by omega)) (fun x3 h4 => ?_)
    have mh4 := h4.2
    refine tN (fun h5 => ?_) (fun h5 => ?_)
    ·have q6 : (SzL 8 (fun _ => True)) ([x3] : (List Int)) := ⟨by simp only [List.length_cons, List.length_nil]; omega, fun _ _ => trivial⟩
     have q9 := ov5.1
     refine tB (tA Zc5 (by decide)) (fun x7 h8 => ?_)
     have lh8 : x7.length = v5.length + 1 := by rw [h8, List.length_append]; rfl
     refine qw (v6 + 1) fun q10 q11 => ?_
     exact tL ⟨rfl, rfl, ov0, ⟨lo, fun _ _ => trivial⟩, cl, cl, cl, tk8⟩ tk73
    ·refine qw (v6 + 1) fun q12 q13 => ?_
     exact tL ⟨rfl, rfl, ov0, ov5, cl, cl, cl, tk8⟩ tk73
   ·exact tR ⟨ov5, (by exact Zamy (by assumption) (by omega))⟩
abbrev Zal5 (a0 : Zc) (a1 : Int) (r : (Zc × (List Int))) : Prop := (Zw r.1) ∧ ((SzL 8 (fun _ => True)) r.2) ∧ (r.1.S.Objects.length = a0.S.Objects.length) ∧ (r.1.L.length = a0.L.length) ∧ (r.1.All.length = r.1.S.Objects.length) ∧ (r.1.Blank.length = r.1.S.Objects.length) ∧ (r.1.Begun.length = r.1.L.length) ∧ (r.1.Sets.length = r.1.L.length)
def Zaoi (a0 : Zc) (a1 : Int) : Zic → Prop
 | .L0 v1 E0 E1 v6 v7 => (v1 = a1) ∧ (Zw E0) ∧ (Zw E1) ∧ ((SzL 8 (fun _ => True)) v6) ∧ (0 ≤ v7) ∧ (E0.S.Objects.length = a0.S.Objects.length) ∧ (E0.L.length = a0.L.length) ∧ (E0.All.length = E0.S.Objects.length) ∧ (E0.Blank.length = E0.S.Objects.length) ∧ (E0.Begun.length = E0.L.length) ∧ (E0.Sets.length = E0.L.length) ∧ (a0.S.Objects.length ≤ 60) ∧ (a0.L.length ≤ 10000) ∧ (v6.Nodup) ∧ (∀ x, x ∈ v6 → 0 ≤ x ∧ x < v7) ∧ (v6.length ≤ v7.toNat) ∧ (v7.toNat ≤ E0.L.length)
 | .L1 v1 E0 E1 v6 v8 v9 v10 => (v1 = a1) ∧ (Zw E0) ∧ (Zw E1) ∧ ((SzL 8 (fun _ => True)) v6) ∧ ((SzL 8 (fun _ => True)) v8) ∧ (0 ≤ v10) ∧ (E0.S.Objects.length = a0.S.Objects.length) ∧ (E0.L.length = a0.L.length) ∧ (E0.All.length = E0.S.Objects.length) ∧ (E0.Blank.length = E0.S.Objects.length) ∧ (E0.Begun.length = E0.L.length) ∧ (E0.Sets.length = E0.L.length) ∧ (a0.S.Objects.length ≤ 60) ∧ (a0.L.length ≤ 10000) ∧ (v6.Nodup) ∧ (∀ x, x ∈ v6 → 0 ≤ x ∧ x < (E0.L.length : Int)) ∧ ((v6.length : Int) = v9 - v10) ∧ (v10 ≤ v9) ∧ (v9 ≤ 10000) ∧ (v8.length ≤ v10.toNat)
def Z68 : Zic → M6
 | .L0 v1 E0 E1 v6 v7 => (3, ((E0.L.length : Int) - v7).toNat, 1000000, 0, 0, 0)
 | .L1 v1 E0 E1 v6 v8 v9 v10 => (1, (v9 - v10).toNat, 1000000, 0, 0, 0)
theorem Zaoj (a0 : Zc) (a1 : Int) (oa0 : Zw a0) (h0 : a0.All.length = a0.S.Objects.length) (h1 : a0.Blank.length = a0.S.Objects.length) (h2 : a0.Begun.length = a0.L.length) (h3 : a0.Sets.length = a0.L.length) (h4 : a0.S.Objects.length ≤ 60) (h5 : a0.L.length ≤ 10000) : Tot (Z40 a0 a1) (Zal5 a0 a1) := by
 unfold Z40
 refine tX (Inv := (Zaoi a0 a1)) (μ := Z68) (m := (1000000, 0, 0, 0, 0, 0)) ?_ ?_
 ·dsimp only [Z99, LT.den]
  refine tE (fun h1 => ?_) (fun h1 => ?_)
  ·refine tB (Zalw a0 oa0 cl cl cl cl cl cl) (fun x2 h3 => ?_)
   have eh3_1 := h3.2.1
   have eh3_2 := h3.2.2.1
   have eh3_3 := h3.2.2.2.1
   have eh3_4 := h3.2.2.2.2.1
   have eh3_5 := h3.2.2.2.2.2.1
   have eh3_6 := h3.2.2.2.2.2.2
   exact tL ⟨rfl, h3.1, ⟨⟨SzL.nil, SzL.nil, SzL.nil, SzL.nil, SzL.nil, SzL.nil, SzL.nil, SzL.nil⟩, SzL.nil, SzL.nil, SzL.nil, SzL.nil, SzL.nil⟩, SzL.nil, cl, cl, cl, cl, cl, cl, cl, cl, cl, tk11, tk40, cl, cl⟩ tk79
  ·exact tL ⟨rfl, oa0, ⟨⟨SzL.nil, SzL.nil, SzL.nil, SzL.nil, SzL.nil, SzL.nil, SzL.nil, SzL.nil⟩, SzL.nil, SzL.nil, SzL.nil, SzL.nil, SzL.nil⟩, SzL.nil, cl, cl, cl, cl, cl, cl, cl, cl, cl, tk11, tk40, cl, cl⟩ tk79
 ·intro s hs
  cases s with
  | L0 v1 E0 E1 v6 v7 =>
   obtain ⟨al0, O0, O1, ov6, cv7, i0, i1, i2, i3, i4, i5, i6, i7, i8, i9, i10, i11⟩ := hs
   have lb_v6 := ov6.1
   subst al0
   show Tot (Ztu v1 E0 E1 v6 v7).den _
   dsimp only [Ztu, LT.den]
   have q1 := O0.2.2.1.1
   refine tD (fun h2 => ?_) (fun h2 => ?_)
   ·refine tB (tI (by omega) (by omega)) (fun x3 h4 => ?_)
    have oh4 : Z7 x3 := O0.2.2.1.2 x3 h4.1
    refine tB (Zaly x3 v1 oh4) (fun x5 h6 => ?_)
    refine tF (fun h7 => ?_) (fun h7 => ?_)
    ·have q8 : (SzL 8 (fun _ => True)) ([v7] : (List Int)) := ⟨by simp only [List.length_cons, List.length_nil]; omega, fun _ _ => trivial⟩
     have q11 := ov6.1
     refine tB (tA Zc5 (by decide)) (fun x9 h10 => ?_)
     have lh10 : x9.length = v6.length + 1 := by rw [h10, List.length_append]; rfl
     refine qw (v7 + 1) fun q12 q13 => ?_
     exact tL ⟨rfl, O0, O1, ⟨lo, fun _ _ => trivial⟩, cl, cl, cl, cl, cl, cl, cl, cl, cl, tk11, tk40, cl, cl⟩ tk79
    ·refine qw (v7 + 1) fun q14 q15 => ?_
     exact tL ⟨rfl, O0, O1, ov6, cl, cl, cl, cl, cl, cl, cl, cl, cl, tk11, tk40, cl, cl⟩ tk79
   ·have q16 := ov6.1
    exact tL ⟨rfl, O0, O1, ov6, SzL.nil, cl, cl, cl, cl, cl, cl, cl, cl, cl, tk11, (by intro x hx; have := i9 x; grind), cl, cl, cl, cl⟩ tk79
  | L1 v1 E0 E1 v6 v8 v9 v10 =>
   obtain ⟨al0, O0, O1, ov6, ov8, cv10, i0, i1, i2, i3, i4, i5, i6, i7, i8, i9, i10, i11, i12, i13⟩ := hs
   have lb_v6 := ov6.1
   have lb_v8 := ov8.1
   subst al0
   show Tot (Ztv v1 E0 E1 v6 v8 v9 v10).den _
   dsimp only [Ztv, LT.den]
   refine tD (fun h1 => ?_) (fun h1 => ?_)
   ·refine tB (Zawy E0 v6 v1 O0 ov6 cl cl cl cl cl cl Zau cl) (fun x2 h3 => ?_)
    have eh3_0 := h3
    have dh3 : x2 ∈ v6 := (List.exists_mem_of_length_pos (l := v6) (by omega)).elim fun y hy => eh3_0 y hy; have gh3 := i9 _ dh3
    have q4 : (SzL 8 (fun _ => True)) ([x2] : (List Int)) := ⟨by simp only [List.length_cons, List.length_nil]; omega, fun _ _ => trivial⟩
    have q7 := ov8.1
    refine tB (tA Zc5 (by decide)) (fun x5 h6 => ?_)
    have lh6 : x5.length = v8.length + 1 := by rw [h6, List.length_append]; rfl
    refine tB (Zzx E0 x2 v1 O0 cl cl cl cl cl cl cl cl) (fun x8 h9 => ?_)
    have eh9_1 := h9.2.1
    have eh9_2 := h9.2.2.1
    have eh9_3 := h9.2.2.2.1
    have eh9_4 := h9.2.2.2.2.1
    have eh9_5 := h9.2.2.2.2.2.1
    have eh9_6 := h9.2.2.2.2.2.2
    refine tB (Zal4 v6 x2 ov6) (fun x10 h11 => ?_)
    have eh11_1 := h11.2
    have wh11 : x10.length + 1 = v6.length := by rw [eh11_1]; exact Zaxe (by assumption) (by assumption)
    refine qw (v10 + 1) fun q12 q13 => ?_
    exact tL ⟨rfl, h9.1, O1, h11.1, ⟨lo, fun _ _ => trivial⟩, cl, cl, cl, cl, cl, cl, cl, cl, cl, tk11, (by intro x hx; have := i9 x; grind), cl, cl, cl, cl⟩ tk79
   ·exact tR ⟨O0, ov8, cl, cl, cl, cl, cl, cl⟩
def Zayd (a0 : (List Zn)) (a1 : Zb) : Zs6 → Prop
 | .L0 E0 v6 => (Zw E0) ∧ (0 ≤ v6) ∧ (E0.All.length = E0.S.Objects.length) ∧ (E0.Blank.length = E0.S.Objects.length) ∧ (E0.Begun.length = E0.L.length) ∧ (E0.Sets.length = E0.L.length) ∧ (E0.S.Objects.length ≤ 60) ∧ (E0.L.length ≤ 10000) ∧ (E0.S.Objects.length = a1.Objects.length)
def Z5o : Zs6 → M6
 | .L0 E0 v6 => (1, (8 + 1 - v6).toNat, 1000000, 0, 0, 0)
theorem Zaye (a0 : (List Zn)) (a1 : Zb) (oa0 : (SzL 176 Zaf) a0) (oa1 : Zq a1) (h0 : ∀ c, c ∈ a0 → c.Abilities.length ≤ 8) (h1 : a1.Objects.length ≤ 60) (h2 : a1.Conts.length ≤ 8) : Tot (Zanj a0 a1) (fun r => ((SzL 176 Zv) r) ∧ (r.length = a1.Objects.length)) := by
 unfold Zanj
 refine tX (Inv := (Zayd a0 a1)) (μ := Z5o) (m := (1000000, 0, 0, 0, 0, 0)) ?_ ?_
 ·have lb_a0 := oa0.1
  dsimp only [Zapw, LT.den]
  refine tB (Zarh a0 a1 oa0 oa1 Zau cl cl) (fun x1 h2 => ?_)
  have eh2_1 := h2.2.1
  have eh2_2 := h2.2.2.1
  have eh2_3 := h2.2.2.2.1
  have eh2_4 := h2.2.2.2.2.1
  have eh2_5 := h2.2.2.2.2.2.1
  have eh2_6 := h2.2.2.2.2.2.2
  exact tL ⟨h2.1, cl, cl, cl, cl, cl, cl, cl, cl⟩ (by unfold Z5o lt6; dsimp only; omega)
 ·intro s hs
  cases s with
  | L0 E0 v6 =>
   obtain ⟨O0, cv6, i0, i1, i2, i3, i4, i5, i6⟩ := hs
   show Tot (Z41 E0 v6).den _
   dsimp only [Z41, LT.den]
   refine tD (fun h1 => ?_) (fun h1 => ?_)
   ·refine tB (Zaoj E0 v6 O0 cl cl cl cl cl cl) (fun x2 h3 => ?_)
    have eh3_2 := h3.2.2.1
    have eh3_3 := h3.2.2.2.1
    have eh3_4 := h3.2.2.2.2.1
    have eh3_5 := h3.2.2.2.2.2.1
    have eh3_6 := h3.2.2.2.2.2.2.1
    have eh3_7 := h3.2.2.2.2.2.2.2
    refine qw (v6 + 1) fun q4 q5 => ?_
    exact tL ⟨h3.1, cl, cl, cl, cl, cl, cl, cl, cl⟩ (by unfold Z5o lt6; dsimp only; omega)
   ·exact tR ⟨O0.2.1, cl⟩
def Zart (a0 : Zb) (a1 : Int) : Zmi → Prop
 | .L0 v1 E0 v5 => (E0 = a0) ∧ (v1 = a1) ∧ (Zq E0) ∧ (0 ≤ v5) ∧ (Z48 E0.Objects v1 v5)
def Zyf : Zmi → M6
 | .L0 v1 E0 v5 => (1, ((E0.Objects.length : Int) - v5).toNat, 1000000, 0, 0, 0)
theorem Z69 (a0 : Zb) (a1 : Int) (oa0 : Zq a0) : Tot (Zaab a0 a1) (fun r => (r = ixO a0.Objects a1)) := by
 unfold Zaab
 refine tX (Inv := (Zart a0 a1)) (μ := Zyf) (m := (1000000, 0, 0, 0, 0, 0)) ?_ ?_
 ·dsimp only [Zaeo, LT.den]
  exact tL ⟨rfl, rfl, oa0, cl, tk22⟩ (by unfold Zyf lt6; dsimp only; omega)
 ·intro s hs
  cases s with
  | L0 v1 E0 v5 =>
   obtain ⟨al0, al1, O0, cv5, i0⟩ := hs
   subst al0
   subst al1
   show Tot (Zxq v1 E0 v5).den _
   dsimp only [Zxq, LT.den]
   have q1 := O0.2.1.1
   refine tD (fun h2 => ?_) (fun h2 => ?_)
   ·refine tB (tI (by omega) (by omega)) (fun x3 h4 => ?_)
    have mh4 := h4.2
    refine tE (fun h5 => ?_) (fun h5 => ?_)
    ·exact tR tk16
    ·refine qw (v5 + 1) fun q6 q7 => ?_
     exact tL ⟨rfl, rfl, O0, cl, tk22⟩ (by unfold Zyf lt6; dsimp only; omega)
   ·exact tR tk16
end Go.PW
