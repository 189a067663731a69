import Derived.Test.YtnoofnejcoadfaaGreatDoorQXb
set_option linter.all false
set_option maxRecDepth 100000
namespace Go.PW
theorem Zatd (a0 : (List Za)) (a1 : Int) (oa0 : (SzL 176 Zt) a0) : Tot (Zaa8 a0 a1) (fun r => (Zt r) ∧ (r = trV a0 a1)) := by
 unfold Zaa8
 refine tZ ?_
 have lb_a0 := oa0.1
 dsimp only [Zafo, LT.den]
 refine tD (fun h1 => ?_) (fun h1 => ?_)
 ·exact tR ⟨⟨(SzS.nil), SzL.nil, SzL.nil⟩, tk29⟩
 ·have q2 := oa0.1
  refine tD (fun h3 => ?_) (fun h3 => ?_)
  ·exact tR ⟨⟨(SzS.nil), SzL.nil, SzL.nil⟩, tk29⟩
  ·refine tB (tI (by omega) (by omega)) (fun x4 h5 => ?_)
   have oh5 : Zt x4 := oa0.2 x4 h5.1
   have mh5 := h5.2
   exact tR ⟨oh5, tk29⟩
def Z6e (a0 : Zb) (a1 : (List Za)) (a2 : Zs) (a3 : Zw) : Zyc → Prop
 | .L0 v1 E0 E1 E2 v9 v10 v11 => (E0 = a0) ∧ (v1 = a1) ∧ (E1 = a2) ∧ (E2 = a3) ∧ ((SzL 176 Zt) v1) ∧ (Zq E0) ∧ (Zbx E1) ∧ (Zc8 E2) ∧ (amV E2 = true) ∧ (v9 = 0) ∧ (v10 = ixO E0.Objects E1.Source) ∧ (v11 = true ↔ (0 ≤ E1.You ∧ E1.You < (E0.Players.length : Int)))
def Zarq : Zyc → M6
 | .L0 v1 E0 E1 E2 v9 v10 v11 => (0, 0, 0, 0, 0, 0)
theorem Zvg (a0 : Zb) (a1 : (List Za)) (a2 : Zs) (a3 : Zw) (v1 : (List Za)) (E0 : Zb) (E1 : Zs) (E2 : Zw) (v9 : Int) (v10 : Int) (v11 : Bool) (h : (Z6e a0 a1 a2 a3) (.L0 v1 E0 E1 E2 v9 v10 v11)) : Tot (Ztv v1 E0 E1 E2 v9 v10 v11).den (Nx (Z6e a0 a1 a2 a3) Zarq (0, 0, 0, 0, 0, 0) (fun r => (r = ofV a0 a1 a2 a3))) := by
 obtain ⟨al0, al1, al2, al3, ov1, O0, O1, O2, i0, i1, i2, i3⟩ := h
 have lb_v1 := ov1.1
 subst al0
 subst al1
 subst al2
 subst al3
 dsimp only [Ztv, LT.den]
 have l0 := Zabj E0.Objects E1.Source
 have l1 := Za7k i0
 refine tE (fun h1 => ?_) (fun h1 => ?_)
 ·exact tR Zrt
 ·refine tE (fun h2 => ?_) (fun h2 => ?_)
  ·exact tR Zrt
  ·refine tE (fun h3 => ?_) (fun h3 => ?_)
   ·refine tB (Zy0 E0 v1 E1.You E1.Source E2.Filter O0 ov1 O2) (fun x4 h5 => ?_)
    have eh5_1 := h5.2
    have q6 := h5.1.1
    refine tB (Z2l E2.N (x4.length : Int)) (fun x7 h8 => ?_)
    have eh8_0 := h8
    exact tR Zrt
   ·refine tE (fun h9 => ?_) (fun h9 => ?_)
    ·refine tB (Zatd v1 v10 ov1) (fun x10 h11 => ?_)
     have eh11_1 := h11.2
     exact tR Zrt
    ·refine tE (fun h12 => ?_) (fun h12 => ?_)
     ·refine tD (fun h13 => ?_) (fun h13 => ?_)
      ·refine tB (tI (by omega) (by omega)) (fun x14 h15 => ?_)
       have mh15 := h15.2
       have mh15 := h15.2
       refine tB (tI (by omega) (by have e : (A3.list x14.Counters).length = 3 := rfl; omega)) (fun x16 h17 => ?_)
       have mh17 := h17.2; have fh17 := Za9p (by assumption) i2 (by omega) mh17
       exact tR Zrt
      ·have fh13 := Za9q (c := E2.Counter) i2 (by omega)
       exact tR Zrt
     ·refine tE (fun h18 => ?_) (fun h18 => ?_)
      ·refine tF (fun h19 => ?_) (fun h19 => ?_)
       ·have wh19 := i3.1 h19
        refine tB (tI (by omega) (by omega)) (fun x20 h21 => ?_)
        have oh21 : Zbs x20 := O0.1.2 x20 h21.1
        have mh21 := h21.2
        exact tR Zrt
       ·exact tR Zrt
      ·refine tE (fun h22 => ?_) (fun h22 => ?_)
       ·refine tF (fun h23 => ?_) (fun h23 => ?_)
        ·have wh23 := i3.1 h23
         refine tB (tI (by omega) (by omega)) (fun x24 h25 => ?_)
         have oh25 : Zbs x24 := O0.1.2 x24 h25.1
         have mh25 := h25.2
         have q26 := oh25.2.1.1
         exact tR Zrt
        ·exact tR Zrt
       ·refine tE (fun h27 => ?_) (fun h27 => ?_)
        ·exact tR Zrt
        ·exact tR Zrt
theorem Za20 (a0 : Zb) (a1 : (List Za)) (a2 : Zs) (a3 : Zw) (oa0 : Zq a0) (oa1 : (SzL 176 Zt) a1) (oa2 : Zbx a2) (oa3 : Zc8 a3) : Tot (Zaw8 a0 a1 a2 a3) (fun r => (r = ofV a0 a1 a2 a3)) := by
 unfold Zaw8
 refine tX (Inv := (Z6e a0 a1 a2 a3)) (μ := Zarq) (m := (1000000, 0, 0, 0, 0, 0)) ?_ ?_
 ·have lb_a1 := oa1.1
  dsimp only [Zaw6, LT.den]
  refine tB (Z59 a3 oa3) (fun x1 h2 => ?_)
  have eh2_0 := h2
  refine tO (fun h3 => ?_) (fun h3 => ?_)
  ·exact tR Zrt
  ·refine tB (Z72 a0 a2.Source oa0) (fun x4 h5 => ?_)
   have eh5_0 := h5
   refine tD (fun h6 => ?_) (fun h6 => ?_)
   ·have q7 := oa0.1.1
    exact tJ (Zvg a0 a1 a2 a3 a1 a0 a2 a3 0 x4 (decide (a2.You < (a0.Players.length : Int))) ⟨rfl, rfl, rfl, rfl, oa1, oa0, oa2, oa3, Zar, (by rfl), (by assumption), (by grind)⟩)
   ·exact tJ (Zvg a0 a1 a2 a3 a1 a0 a2 a3 0 x4 false ⟨rfl, rfl, rfl, rfl, oa1, oa0, oa2, oa3, Zar, (by rfl), (by assumption), (by grind)⟩)
 ·intro s hs
  cases s with
  | L0 v1 E0 E1 E2 v9 v10 v11 => exact Zvg a0 a1 a2 a3 v1 E0 E1 E2 v9 v10 v11 hs
theorem Z6f (a0 : (List Zl)) (a1 : Zb) (a2 : Zaa) (oa0 : (SzL 176 Zad) a0) (oa1 : Zq a1) (oa2 : Zcr a2) : Tot (Znz a0 a1 a2) (fun r => (r = true)) := by
 unfold Znz
 refine tZ ?_
 have lb_a0 := oa0.1
 dsimp only [Ztw, LT.den]
 refine tB (Znj a0 a1 oa0 oa1) (fun x1 h2 => ?_)
 have eh2_0 := h2
 refine tO (fun h3 => ?_) (fun h3 => ?_)
 ·refine tB (Zb0) (fun x4 h5 => ?_)
  have eh5_0 := h5
  exact tR Zl1
 ·have h3_0 := eh2_0 h3
  have q6 := oa2.1.1
  refine tD (fun h7 => ?_) (fun h7 => ?_)
  ·refine tB (Zb0) (fun x8 h9 => ?_)
   have eh9_0 := h9
   exact tR Zl1
  ·refine tB (Zsj a0 a1 oa0 oa1 Zar cl cl) (fun x10 h11 => ?_)
   have eh11_1 := h11.2
   refine tB (Zey a1 x10 a2.Ctx a2.Amount oa1 h11.1 oa2.1 oa2.2.1) (fun x12 h13 => ?_)
   have eh13_0 := h13
   refine tB (Za20 a1 x10 a2.Ctx a2.Amount oa1 h11.1 oa2.1 oa2.2.1) (fun x14 h15 => ?_)
   have eh15_0 := h15
   refine tE (fun h16 => ?_) (fun h16 => ?_)
   ·refine tB (Zb0) (fun x17 h18 => ?_)
    have eh18_0 := h18
    exact tR Zl1
   ·exact tR Zl1
theorem Zaqb (a0 : Zs) (a1 : Int) (oa0 : Zbx a0) : Tot (Z5p a0 a1) (fun r => (r = tgV a0.Targets a1)) := by
 unfold Z5p
 refine tZ ?_
 dsimp only [Zaa9, LT.den]
 refine tD (fun h1 => ?_) (fun h1 => ?_)
 ·exact tR tk43
 ·have q2 := oa0.1
  refine tD (fun h3 => ?_) (fun h3 => ?_)
  ·exact tR tk43
  ·refine qw (a1 - 1) fun q4 q5 => ?_
   refine tB (tI (by omega) (by omega)) (fun x6 h7 => ?_)
   have mh7 := h7.2
   exact tR tk43
def Zand (a0 : Zb) (a1 : (List Za)) (a2 : Zs) (a3 : Zak) : Zju → Prop
 | .L0 E0 v9 v12 v13 => (E0 = a0) ∧ (Zq E0) ∧ ((SzL 8 (fun _ => True)) v9) ∧ ((SzL 8 (fun _ => True)) v12) ∧ (0 ≤ v13) ∧ (v12.length ≤ v13.toNat) ∧ (v13 ≤ (v9.length : Int)) ∧ (v9.filter (exB E0) = obV E0 a1 a2 a3) ∧ (v12 = (v9.take v13.toNat).filter (exB E0))
def Z4j : Zju → M6
 | .L0 E0 v9 v12 v13 => (1, ((v9.length : Int) - v13).toNat, 1000000, 0, 0, 0)
theorem Zane (a0 : Zb) (a1 : (List Za)) (a2 : Zs) (a3 : Zak) (oa0 : Zq a0) (oa1 : (SzL 176 Zt) a1) (oa2 : Zbx a2) (oa3 : Zed a3) : Tot (Zsf a0 a1 a2 a3) (fun r => ((SzL 8 (fun _ => True)) r) ∧ (r = obV a0 a1 a2 a3)) := by
 unfold Zsf
 refine tX (Inv := (Zand a0 a1 a2 a3)) (μ := Z4j) (m := (1000000, 0, 0, 0, 0, 0)) ?_ ?_
 ·have lb_a1 := oa1.1
  dsimp only [Z7p, LT.den]
  refine tB (Zaqb a2 a3.N oa2) (fun x1 h2 => ?_)
  have eh2_0 := h2
  refine tE (fun h3 => ?_) (fun h3 => ?_)
  ·have q4 : (SzL 8 (fun _ => True)) ([a2.Source] : (List Int)) := ⟨by simp only [List.length_cons, List.length_nil]; omega, fun _ _ => trivial⟩
   exact tL ⟨rfl, oa0, q4, SzL.nil, cl, cl, cl, Z50, tk7⟩ Z5z
  ·refine tE (fun h5 => ?_) (fun h5 => ?_)
   ·refine tF (fun h6 => ?_) (fun h6 => ?_)
    ·refine tN (fun h7 => ?_) (fun h7 => ?_)
     ·have q8 : (SzL 8 (fun _ => True)) ([x1.1.Object] : (List Int)) := ⟨by simp only [List.length_cons, List.length_nil]; omega, fun _ _ => trivial⟩
      exact tL ⟨rfl, oa0, q8, SzL.nil, cl, cl, cl, Z50, tk7⟩ Z5z
     ·exact tL ⟨rfl, oa0, SzL.nil, SzL.nil, cl, cl, cl, Z50, tk7⟩ Z5z
    ·exact tL ⟨rfl, oa0, SzL.nil, SzL.nil, cl, cl, cl, Z50, tk7⟩ Z5z
   ·refine tE (fun h9 => ?_) (fun h9 => ?_)
    ·refine tB (Zy0 a0 a1 a2.You a2.Source a3.Filter oa0 oa1 oa3) (fun x10 h11 => ?_)
     have eh11_1 := h11.2
     exact tL ⟨rfl, oa0, h11.1, SzL.nil, cl, cl, cl, Z50, tk7⟩ Z5z
    ·refine tE (fun h12 => ?_) (fun h12 => ?_)
     ·have q13 : (SzL 8 (fun _ => True)) ([a2.Event.Object] : (List Int)) := ⟨by simp only [List.length_cons, List.length_nil]; omega, fun _ _ => trivial⟩
      exact tL ⟨rfl, oa0, q13, SzL.nil, cl, cl, cl, Z50, tk7⟩ Z5z
     ·exact tL ⟨rfl, oa0, SzL.nil, SzL.nil, cl, cl, cl, Z50, tk7⟩ Z5z
 ·intro s hs
  cases s with
  | L0 E0 v9 v12 v13 =>
   obtain ⟨al0, O0, ov9, ov12, cv13, i0, i1, i2, i3⟩ := hs
   have lb_v9 := ov9.1
   have lb_v12 := ov12.1
   subst al0
   show Tot (Zro E0 v9 v12 v13).den _
   dsimp only [Zro, LT.den]
   have q1 := ov9.1
   refine tD (fun h2 => ?_) (fun h2 => ?_)
   ·refine tB (tI (by omega) (by omega)) (fun x3 h4 => ?_)
    have mh4 := h4.2
    refine tB (Z72 E0 x3 O0) (fun x5 h6 => ?_)
    have eh6_0 := h6
    refine tD (fun h7 => ?_) (fun h7 => ?_)
    ·have q8 : (SzL 8 (fun _ => True)) ([x3] : (List Int)) := ⟨by simp only [List.length_cons, List.length_nil]; omega, fun _ _ => trivial⟩
     have q11 := ov12.1
     refine tB (tA Zdt (by decide)) (fun x9 h10 => ?_)
     have lh10 : x9.length = v12.length + 1 := by rw [h10, List.length_append]; rfl
     refine qw (v13 + 1) fun q12 q13 => ?_
     exact tL ⟨rfl, O0, ov9, ⟨lo, fun _ _ => trivial⟩, cl, cl, cl, Z50, tk7⟩ Z5z
    ·refine qw (v13 + 1) fun q14 q15 => ?_
     exact tL ⟨rfl, O0, ov9, ov12, cl, cl, cl, Z50, tk7⟩ Z5z
   ·exact tR ⟨ov12, (by exact (Zaz9 (by assumption) (by omega)).trans (by assumption))⟩
theorem Z6g (a0 : (List Zl)) (a1 : Zb) (a2 : Zaa) (oa0 : (SzL 176 Zad) a0) (oa1 : Zq a1) (oa2 : Zcr a2) : Tot (Zn0 a0 a1 a2) (fun r => (r = true)) := by
 unfold Zn0
 refine tZ ?_
 have lb_a0 := oa0.1
 dsimp only [Zty, LT.den]
 refine tB (Znj a0 a1 oa0 oa1) (fun x1 h2 => ?_)
 have eh2_0 := h2
 refine tO (fun h3 => ?_) (fun h3 => ?_)
 ·refine tB (Zb0) (fun x4 h5 => ?_)
  have eh5_0 := h5
  exact tR Zl1
 ·have h3_0 := eh2_0 h3
  have q6 := oa2.1.1
  refine tD (fun h7 => ?_) (fun h7 => ?_)
  ·refine tB (Zb0) (fun x8 h9 => ?_)
   have eh9_0 := h9
   exact tR Zl1
  ·refine tB (Zsj a0 a1 oa0 oa1 Zar cl cl) (fun x10 h11 => ?_)
   have eh11_1 := h11.2
   refine tB (Zgc a1 x10 a2.Ctx a2.Ref oa1 h11.1 oa2.1 oa2.2.2) (fun x12 h13 => ?_)
   have eh13_1 := h13.2
   refine tB (Zane a1 x10 a2.Ctx a2.Ref oa1 h11.1 oa2.1 oa2.2.2) (fun x14 h15 => ?_)
   have eh15_1 := h15.2
   refine tB (Zhd x12 x14 h13.1 h15.1) (fun x16 h17 => ?_)
   have eh17_0 := h17
   refine tF (fun h18 => ?_) (fun h18 => ?_)
   ·refine tB (Zb0) (fun x19 h20 => ?_)
    have eh20_0 := h20
    exact tR Zl1
   ·exact tR Zl1
def Zj9 : Zdz → Prop
 | .L0 E0 E1 v7 => (Zq E0) ∧ (Zcr E1) ∧ ((SzL 176 Zt) v7)
 | .L1 E0 E1 v7 v9 v10 => (Zq E0) ∧ (Zcr E1) ∧ ((SzL 176 Zt) v7) ∧ ((SzL 8 (fun _ => True)) v9) ∧ (0 ≤ v10) ∧ (∀ x, x ∈ v9 → Zk6 E0.Players x = true)
 | .L2 E0 v11 v12 => (Zq E0) ∧ ((SzL 8 (fun _ => True)) v11) ∧ (0 ≤ v12) ∧ (∀ x, x ∈ v11 → exB E0 x = true)
def Zft : Zdz → M6
 | .L0 E0 E1 v7 => (4, 0, 0, 0, 0, 0)
 | .L1 E0 E1 v7 v9 v10 => (3, ((v9.length : Int) - v10).toNat, 1000000, 0, 0, 0)
 | .L2 E0 v11 v12 => (1, ((v11.length : Int) - v12).toNat, 1000000, 0, 0, 0)
theorem Zh3 (E0 : Zb) (E1 : Zaa) (v7 : (List Za)) (h : Zj9 (.L0 E0 E1 v7)) : Tot (Zfr E0 E1 v7).den (Nx Zj9 Zft (4, 0, 0, 0, 0, 0) (fun r => (r = true))) := by
 obtain ⟨O0, O1, ov7⟩ := h
 have lb_v7 := ov7.1
 dsimp only [Zfr, LT.den]
 refine tB (Zl5 E0 v7 E1.Ctx E1.Ref O0 ov7 O1.1 O1.2.2) (fun x1 h2 => ?_)
 have eh2_1 := h2.2
 exact tL ⟨O0, O1, ov7, h2.1, cl, (by first | assumption | (subst_vars; exact Za0f))⟩ tk59
theorem Z79 (a0 : (List Zl)) (a1 : Zb) (a2 : Zaa) (oa0 : (SzL 176 Zad) a0) (oa1 : Zq a1) (oa2 : Zcr a2) : Tot (Zp7 a0 a1 a2) (fun r => (r = true)) := by
 unfold Zp7
 refine tX (Inv := Zj9) (μ := Zft) (m := (1000000, 0, 0, 0, 0, 0)) ?_ ?_
 ·have lb_a0 := oa0.1
  dsimp only [Zvj, LT.den]
  refine tB (Znj a0 a1 oa0 oa1) (fun x1 h2 => ?_)
  have eh2_0 := h2
  refine tO (fun h3 => ?_) (fun h3 => ?_)
  ·refine tB (Zb0) (fun x4 h5 => ?_)
   have eh5_0 := h5
   exact tR Z2c
  ·have h3_0 := eh2_0 h3
   have q6 := oa2.1.1
   refine tD (fun h7 => ?_) (fun h7 => ?_)
   ·refine tB (Zb0) (fun x8 h9 => ?_)
    have eh9_0 := h9
    exact tR Z2c
   ·refine tB (Zsj a0 a1 oa0 oa1 Zar cl cl) (fun x10 h11 => ?_)
    have eh11_1 := h11.2
    refine tB (Zey a1 x10 a2.Ctx a2.Amount oa1 h11.1 oa2.1 oa2.2.1) (fun x12 h13 => ?_)
    have eh13_0 := h13
    have bh13 := Zbal a1 x10 a2.Ctx a2.Amount; have ch13 := Za9t (s := a1) (all := x10) (c := a2.Ctx) (a := a2.Amount)
    refine tD (fun h14 => ?_) (fun h14 => ?_)
    ·exact tR Z2c
    ·refine tD (fun h15 => ?_) (fun h15 => ?_)
     ·exact tR Z2c
     ·refine tN (fun h16 => ?_) (fun h16 => ?_)
      ·refine tB (Z59 a2.Amount oa2.2.1) (fun x17 h18 => ?_)
       have eh18_0 := h18
       refine tO (fun h19 => ?_) (fun h19 => ?_)
       ·exact tR Z2c
       ·exact tJ (Zh3 a1 a2 x10 ⟨oa1, oa2, h11.1⟩)
      ·exact tJ (Zh3 a1 a2 x10 ⟨oa1, oa2, h11.1⟩)
 ·intro s hs
  cases s with
  | L0 E0 E1 v7 => exact Zh3 E0 E1 v7 hs
  | L1 E0 E1 v7 v9 v10 =>
   obtain ⟨O0, O1, ov7, ov9, cv10, i0⟩ := hs
   have lb_v7 := ov7.1
   have lb_v9 := ov9.1
   show Tot (Zk3 E0 E1 v7 v9 v10).den _
   dsimp only [Zk3, LT.den, Zft]
   have q1 := ov9.1
   refine tD (fun h2 => ?_) (fun h2 => ?_)
   ·refine tB (tI (by omega) (by omega)) (fun x3 h4 => ?_)
    have mh4 := h4.2; have bh4 := Za6o (i0 _ h4.1); have nh4 := i0 _ h4.1
    refine tD (fun h5 => ?_) (fun h5 => ?_)
    ·exact tR Z2c
    ·have q6 := O0.1.1
     refine tD (fun h7 => ?_) (fun h7 => ?_)
     ·exact tR Z2c
     ·refine tB (tI (by omega) (by omega)) (fun x8 h9 => ?_)
      have oh9 : Zbs x8 := O0.1.2 x8 h9.1
      have mh9 := h9.2; have nh9 := Zacv mh9 (by omega)
      refine tF (fun h10 => ?_) (fun h10 => ?_)
      ·exact tR Z2c
      ·refine qw (v10 + 1) fun q11 q12 => ?_
       exact tL ⟨O0, O1, ov7, ov9, cl, (by first | assumption | (subst_vars; exact Za0f))⟩ tk59
   ·refine tB (Zgc E0 v7 E1.Ctx E1.Ref O0 ov7 O1.1 O1.2.2) (fun x13 h14 => ?_)
    have eh14_1 := h14.2
    exact tL ⟨O0, h14.1, cl, (by first | assumption | (subst_vars; exact Za0g))⟩ tk59
  | L2 E0 v11 v12 =>
   obtain ⟨O0, ov11, cv12, i0⟩ := hs
   have lb_v11 := ov11.1
   show Tot (Zk4 E0 v11 v12).den _
   dsimp only [Zk4, LT.den, Zft]
   have q1 := ov11.1
   refine tD (fun h2 => ?_) (fun h2 => ?_)
   ·refine tB (tI (by omega) (by omega)) (fun x3 h4 => ?_)
    have nh4 := i0 _ h4.1
    refine tB (Zabz E0 x3 O0) (fun x5 h6 => ?_)
    have eh6_0 := h6
    have dh6 := Za4o E0.Objects x3
    refine tO (fun h7 => ?_) (fun h7 => ?_)
    ·exact tR Z2c
    ·refine qw (v12 + 1) fun q8 q9 => ?_
     exact tL ⟨O0, ov11, cl, (by first | assumption | (subst_vars; exact Za0g))⟩ tk59
   ·refine tB (Zb0) (fun x10 h11 => ?_)
    have eh11_0 := h11
    exact tR Z2c
theorem Z8a (a0 : (List Zl)) (a1 : Zb) (a2 : Zaa) (oa0 : (SzL 176 Zad) a0) (oa1 : Zq a1) (oa2 : Zcr a2) : Tot (Zp8 a0 a1 a2) (fun r => (r = true)) := by
 unfold Zp8
 refine tZ ?_
 have lb_a0 := oa0.1
 dsimp only [Zvl, LT.den]
 refine tB (Znj a0 a1 oa0 oa1) (fun x1 h2 => ?_)
 have eh2_0 := h2
 refine tO (fun h3 => ?_) (fun h3 => ?_)
 ·refine tB (Zb0) (fun x4 h5 => ?_)
  have eh5_0 := h5
  exact tR Zl1
 ·have h3_0 := eh2_0 h3
  refine tB (Zdv a2.Amount.Filter oa2.2.1) (fun x6 h7 => ?_)
  have eh7_0 := h7.1
  have eh7_1 := h7.2
  refine tO (fun h8 => ?_) (fun h8 => ?_)
  ·refine tB (Zb0) (fun x9 h10 => ?_)
   have eh10_0 := h10
   exact tR Zl1
  ·have h8_0 := eh7_0 h8
   refine tD (fun h11 => ?_) (fun h11 => ?_)
   ·refine tB (Zb0) (fun x12 h13 => ?_)
    have eh13_0 := h13
    exact tR Zl1
   ·refine tD (fun h14 => ?_) (fun h14 => ?_)
    ·refine tB (Zb0) (fun x15 h16 => ?_)
     have eh16_0 := h16
     exact tR Zl1
    ·refine tB (Zsj a0 a1 oa0 oa1 Zar cl cl) (fun x17 h18 => ?_)
     have eh18_1 := h18.2
     have lh18 := Zarm a1 x17 a2.Ctx.You a2.Ctx.Source a2.Amount.Filter; have w1 := Za0h (s := a1) (all := x17) (c := a2.Ctx) (n := 1) (f := a2.Amount.Filter) (by grind) (by omega) (by omega) (by omega); have w2 := Za0h (s := a1) (all := x17) (c := a2.Ctx) (n := a2.Amount.N) (f := a2.Amount.Filter) (by grind) (by omega) (by omega) (by omega); have w3 := Za8p (n := a2.Amount.N) (k := (Zh7 a1 x17 a2.Ctx.You a2.Ctx.Source a2.Amount.Filter).length) (by omega) (by omega) (by omega); have w4 := Za8q (s := a1) (all := x17) (c := a2.Ctx) (n := a2.Amount.N) (by omega) (by omega); have w5 := Za9v a1 x17 a2.Ctx a2.Amount.Filter
     refine tB (Zey a1 x17 a2.Ctx (⟨2, 1, 0, a2.Amount.Filter⟩ : Zw) oa1 h18.1 oa2.1 oa2.2.1) (fun x19 h20 => ?_)
     have eh20_0 := h20
     refine tB (Zey a1 x17 a2.Ctx (⟨2, a2.Amount.N, 0, a2.Amount.Filter⟩ : Zw) oa1 h18.1 oa2.1 oa2.2.1) (fun x21 h22 => ?_)
     have eh22_0 := h22
     refine qw (x19 * a2.Amount.N) fun q23 q24 => ?_
     refine tE (fun h25 => ?_) (fun h25 => ?_)
     ·refine tB (Zgc a1 x17 a2.Ctx (⟨4, 0, a2.Amount.Filter⟩ : Zak) oa1 h18.1 oa2.1 oa2.2.1) (fun x26 h27 => ?_)
      have eh27_1 := h27.2
      have q28 := h27.1.1
      refine tE (fun h29 => ?_) (fun h29 => ?_)
      ·refine tB (Zey a1 x17 a2.Ctx (⟨0, a2.Amount.N, 0, (⟨0, 0, 0, 0, 0, 0, 0, ([] : List UInt8), 0, 0, (⟨0, 0⟩ : Zd), (⟨0, 0⟩ : Zd), (⟨0, 0⟩ : Zd)⟩ : Ze)⟩ : Zw) oa1 h18.1 oa2.1 (SzS.nil)) (fun x30 h31 => ?_)
       have eh31_0 := h31
       refine tE (fun h32 => ?_) (fun h32 => ?_)
       ·refine tB (Zb0) (fun x33 h34 => ?_)
        have eh34_0 := h34
        exact tR Zl1
       ·exact tR Zl1
      ·exact tR Zl1
     ·exact tR Zl1
end Go.PW
