import Derived.Test.YtnoofnejcoadfaaGreatDoorQXb
set_option linter.all false
set_option maxRecDepth 100000
namespace Go.PW
theorem Zaru (a0 : (List Za)) (a1 : Int) (oa0 : (SzL 176 Zv) a0) : Tot (Zaad a0 a1) (fun r => (Zv r) ∧ (r = trV a0 a1)) := by
 unfold Zaad
 refine tZ ?_
 have lb_a0 := oa0.1
 dsimp only [Zaeq, LT.den]
 refine tD (fun h1 => ?_) (fun h1 => ?_)
 ·exact tR ⟨⟨(SzS.nil), SzL.nil, SzL.nil⟩, tk29⟩
 ·have q2 := oa0.1
  refine tD (fun h3 => ?_) (fun h3 => ?_)
  ·exact tR ⟨⟨(SzS.nil), SzL.nil, SzL.nil⟩, tk29⟩
  ·refine tB (tI (by omega) (by omega)) (fun x4 h5 => ?_)
   have oh5 : Zv x4 := oa0.2 x4 h5.1
   have mh5 := h5.2
   exact tR ⟨oh5, tk29⟩
theorem Zaok (a0 : Zy) (a1 : Int) (oa0 : Zcv a0) : Tot (Z42 a0 a1) (fun r => (r = tgV a0.Targets a1)) := by
 unfold Z42
 refine tZ ?_
 dsimp only [Zaae, LT.den]
 refine tD (fun h1 => ?_) (fun h1 => ?_)
 ·exact tR tk43
 ·have q2 := oa0.1
  refine tD (fun h3 => ?_) (fun h3 => ?_)
  ·exact tR tk43
  ·refine qw (a1 - 1) fun q4 q5 => ?_
   refine tB (tI (by omega) (by omega)) (fun x6 h7 => ?_)
   have mh7 := h7.2
   exact tR tk43
def Zaol (a0 : Zb) : Zko → Prop
 | .L0 E0 v3 v4 => (E0 = a0) ∧ (Zq E0) ∧ ((SzL 8 (fun _ => True)) v3) ∧ (0 ≤ v4) ∧ (v3 = Zq5 E0.Players v4) ∧ (v3.length ≤ v4.toNat) ∧ (v4 ≤ (E0.Players.length : Int))
def Z7a : Zko → M6
 | .L0 E0 v3 v4 => (1, ((E0.Players.length : Int) - v4).toNat, 1000000, 0, 0, 0)
theorem Zaom (a0 : Zb) (oa0 : Zq a0) : Tot (Zu9 a0) (fun r => ((SzL 8 (fun _ => True)) r) ∧ (r = Zdq a0.Players)) := by
 unfold Zu9
 refine tX (Inv := (Zaol a0)) (μ := Z7a) (m := (1000000, 0, 0, 0, 0, 0)) ?_ ?_
 ·dsimp only [Zaag, LT.den]
  exact tL ⟨rfl, oa0, SzL.nil, cl, tk5, cl, cl⟩ tk80
 ·intro s hs
  cases s with
  | L0 E0 v3 v4 =>
   obtain ⟨al0, O0, ov3, cv4, i0, i1, i2⟩ := hs
   have lb_v3 := ov3.1
   subst al0
   show Tot (Ztw E0 v3 v4).den _
   dsimp only [Ztw, LT.den]
   have q1 := O0.1.1
   refine tD (fun h2 => ?_) (fun h2 => ?_)
   ·refine tB (tI (by omega) (by omega)) (fun x3 h4 => ?_)
    have oh4 : Zbv x3 := O0.1.2 x3 h4.1
    have mh4 := h4.2
    refine tO (fun h5 => ?_) (fun h5 => ?_)
    ·have q6 : (SzL 8 (fun _ => True)) ([v4] : (List Int)) := ⟨by simp only [List.length_cons, List.length_nil]; omega, fun _ _ => trivial⟩
     have q9 := ov3.1
     refine tB (tA Zc5 (by decide)) (fun x7 h8 => ?_)
     have lh8 : x7.length = v3.length + 1 := by rw [h8, List.length_append]; rfl
     refine qw (v4 + 1) fun q10 q11 => ?_
     exact tL ⟨rfl, O0, ⟨lo, fun _ _ => trivial⟩, cl, tk5, cl, cl⟩ tk80
    ·refine qw (v4 + 1) fun q12 q13 => ?_
     exact tL ⟨rfl, O0, ov3, cl, tk5, cl, cl⟩ tk80
   ·exact tR ⟨ov3, (by exact Zavw (by assumption) (by omega) (by omega))⟩
abbrev Zal6 (a0 : Zb) (a1 : Int) (r : (List Int)) : Prop := ((SzL 8 (fun _ => True)) r) ∧ (r.length ≤ 2 * a0.Players.length) ∧ (r = Z5a a0.Players a1)
def Zaon (a0 : Zb) (a1 : Int) : Zid → Prop
 | .L0 v1 E0 v5 v6 v7 => (E0 = a0) ∧ (v1 = a1) ∧ (Zq E0) ∧ ((SzL 8 (fun _ => True)) v5) ∧ ((SzL 8 (fun _ => True)) v6) ∧ (0 ≤ v7) ∧ (v5 = Zdq E0.Players) ∧ (v6.length ≤ v7.toNat) ∧ (v7 ≤ (v5.length : Int)) ∧ (v6 = ((Zdq E0.Players).take v7.toNat).filter (oA E0.Players v1))
 | .L1 v1 E0 v5 v6 v8 => (E0 = a0) ∧ (v1 = a1) ∧ (Zq E0) ∧ ((SzL 8 (fun _ => True)) v5) ∧ ((SzL 8 (fun _ => True)) v6) ∧ (0 ≤ v8) ∧ (v5 = Zdq E0.Players) ∧ (v6.length ≤ v5.length + v8.toNat) ∧ (v8 ≤ (v5.length : Int)) ∧ (v6 = (Zdq E0.Players).filter (oA E0.Players v1) ++ ((Zdq E0.Players).take v8.toNat).filter (oB E0.Players v1))
def Z7b : Zid → M6
 | .L0 v1 E0 v5 v6 v7 => (3, ((v5.length : Int) - v7).toNat, 1000000, 0, 0, 0)
 | .L1 v1 E0 v5 v6 v8 => (1, ((v5.length : Int) - v8).toNat, 1000000, 0, 0, 0)
theorem Z3v (a0 : Zb) (a1 : Int) (oa0 : Zq a0) : Tot (Zva a0 a1) (Zal6 a0 a1) := by
 unfold Zva
 refine tX (Inv := (Zaon a0 a1)) (μ := Z7b) (m := (1000000, 0, 0, 0, 0, 0)) ?_ ?_
 ·dsimp only [Zaai, LT.den]
  refine tB (Zaom a0 oa0) (fun x1 h2 => ?_)
  have eh2_1 := h2.2
  exact tL ⟨rfl, rfl, oa0, h2.1, SzL.nil, cl, (by assumption), cl, cl, tk2⟩ tk81
 ·intro s hs
  cases s with
  | L0 v1 E0 v5 v6 v7 =>
   obtain ⟨al0, al1, O0, ov5, ov6, cv7, i0, i1, i2, i3⟩ := hs
   have lb_v5 := ov5.1
   have lb_v6 := ov6.1
   subst al0
   subst al1
   show Tot (Ztx v1 E0 v5 v6 v7).den _
   dsimp only [Ztx, LT.den]
   have lq := O0.1.1; have lr := Zavx E0.Players; have ls : v5.length ≤ E0.Players.length := by rw [i0]; exact lr
   have q1 := ov5.1
   refine tD (fun h2 => ?_) (fun h2 => ?_)
   ·refine tB (Zds E0 v1 O0) (fun x3 h4 => ?_)
    have eh4_0 := h4
    refine tF (fun h5 => ?_) (fun h5 => ?_)
    ·refine tB (tI (by omega) (by omega)) (fun x6 h7 => ?_)
     have mh7 := h7.2
     refine tD (fun h8 => ?_) (fun h8 => ?_)
     ·have q9 : (SzL 8 (fun _ => True)) ([x6] : (List Int)) := ⟨by simp only [List.length_cons, List.length_nil]; omega, fun _ _ => trivial⟩
      have q12 := ov6.1
      refine tB (tA Zc5 (by decide)) (fun x10 h11 => ?_)
      have lh11 : x10.length = v6.length + 1 := by rw [h11, List.length_append]; rfl
      refine qw (v7 + 1) fun q13 q14 => ?_
      exact tL ⟨rfl, rfl, O0, ov5, ⟨lo, fun _ _ => trivial⟩, cl, (by assumption), cl, cl, tk2⟩ tk81
     ·refine qw (v7 + 1) fun q15 q16 => ?_
      exact tL ⟨rfl, rfl, O0, ov5, ov6, cl, (by assumption), cl, cl, tk2⟩ tk81
    ·refine qw (v7 + 1) fun q17 q18 => ?_
     exact tL ⟨rfl, rfl, O0, ov5, ov6, cl, (by assumption), cl, cl, tk2⟩ tk81
   ·exact tL ⟨rfl, rfl, O0, ov5, ov6, cl, (by assumption), cl, cl, tk0⟩ tk81
  | L1 v1 E0 v5 v6 v8 =>
   obtain ⟨al0, al1, O0, ov5, ov6, cv8, i0, i1, i2, i3⟩ := hs
   have lb_v5 := ov5.1
   have lb_v6 := ov6.1
   subst al0
   subst al1
   show Tot (Zty v1 E0 v5 v6 v8).den _
   dsimp only [Zty, LT.den]
   have lq := O0.1.1; have lr := Zavx E0.Players; have ls : v5.length ≤ E0.Players.length := by rw [i0]; exact lr
   have q1 := ov5.1
   refine tD (fun h2 => ?_) (fun h2 => ?_)
   ·refine tB (Zds E0 v1 O0) (fun x3 h4 => ?_)
    have eh4_0 := h4
    refine tO (fun h5 => ?_) (fun h5 => ?_)
    ·refine tB (tI (by omega) (by omega)) (fun x6 h7 => ?_)
     have mh7 := h7.2
     have q8 : (SzL 8 (fun _ => True)) ([x6] : (List Int)) := ⟨by simp only [List.length_cons, List.length_nil]; omega, fun _ _ => trivial⟩
     have q11 := ov6.1
     refine tB (tA Zc5 (by decide)) (fun x9 h10 => ?_)
     have lh10 : x9.length = v6.length + 1 := by rw [h10, List.length_append]; rfl
     refine qw (v8 + 1) fun q12 q13 => ?_
     exact tL ⟨rfl, rfl, O0, ov5, ⟨lo, fun _ _ => trivial⟩, cl, (by assumption), cl, cl, tk0⟩ tk81
    ·refine tB (tI (by omega) (by omega)) (fun x14 h15 => ?_)
     have mh15 := h15.2
     refine tD (fun h16 => ?_) (fun h16 => ?_)
     ·have q17 : (SzL 8 (fun _ => True)) ([x14] : (List Int)) := ⟨by simp only [List.length_cons, List.length_nil]; omega, fun _ _ => trivial⟩
      have q20 := ov6.1
      refine tB (tA Zc5 (by decide)) (fun x18 h19 => ?_)
      have lh19 : x18.length = v6.length + 1 := by rw [h19, List.length_append]; rfl
      refine qw (v8 + 1) fun q21 q22 => ?_
      exact tL ⟨rfl, rfl, O0, ov5, ⟨lo, fun _ _ => trivial⟩, cl, (by assumption), cl, cl, tk0⟩ tk81
     ·refine qw (v8 + 1) fun q23 q24 => ?_
      exact tL ⟨rfl, rfl, O0, ov5, ov6, cl, (by assumption), cl, cl, tk0⟩ tk81
   ·exact tR ⟨ov6, cl, (by exact Za7e (by assumption) (by grind))⟩
abbrev Zal7 (a0 : Zb) (a1 : (List Int)) (r : (List Int)) : Prop := ((SzL 8 (fun _ => True)) r) ∧ (r = a1.filter (Zli a0.Players))
def Zaoo (a0 : Zb) (a1 : (List Int)) : Zkp → Prop
 | .L0 v1 E0 v5 v6 => (E0 = a0) ∧ (v1 = a1) ∧ ((SzL 8 (fun _ => True)) v1) ∧ (Zq E0) ∧ ((SzL 8 (fun _ => True)) v5) ∧ (0 ≤ v6) ∧ (v5.length ≤ v6.toNat) ∧ (v6 ≤ (v1.length : Int)) ∧ (v5 = (v1.take v6.toNat).filter (Zli E0.Players))
def Z7c : Zkp → M6
 | .L0 v1 E0 v5 v6 => (1, ((v1.length : Int) - v6).toNat, 1000000, 0, 0, 0)
theorem Zcw (a0 : Zb) (a1 : (List Int)) (oa0 : Zq a0) (oa1 : (SzL 8 (fun _ => True)) a1) : Tot (Z43 a0 a1) (Zal7 a0 a1) := by
 unfold Z43
 refine tX (Inv := (Zaoo a0 a1)) (μ := Z7c) (m := (1000000, 0, 0, 0, 0, 0)) ?_ ?_
 ·have lb_a1 := oa1.1
  dsimp only [Zaak, LT.den]
  exact tL ⟨rfl, rfl, oa1, oa0, SzL.nil, cl, cl, cl, tk6⟩ tk82
 ·intro s hs
  cases s with
  | L0 v1 E0 v5 v6 =>
   obtain ⟨al0, al1, ov1, O0, ov5, cv6, i0, i1, i2⟩ := hs
   have lb_v1 := ov1.1
   have lb_v5 := ov5.1
   subst al0
   subst al1
   show Tot (Ztz v1 E0 v5 v6).den _
   dsimp only [Ztz, LT.den]
   have q1 := ov1.1
   refine tD (fun h2 => ?_) (fun h2 => ?_)
   ·refine tB (tI (by omega) (by omega)) (fun x3 h4 => ?_)
    have mh4 := h4.2
    refine tD (fun h5 => ?_) (fun h5 => ?_)
    ·have q6 := O0.1.1
     refine tD (fun h7 => ?_) (fun h7 => ?_)
     ·refine tB (tI (by omega) (by omega)) (fun x8 h9 => ?_)
      have oh9 : Zbv x8 := O0.1.2 x8 h9.1
      have mh9 := h9.2; have bh9 := Zabz mh9 (by omega)
      have mh9 := h9.2
      refine tO (fun h10 => ?_) (fun h10 => ?_)
      ·have q11 : (SzL 8 (fun _ => True)) ([x3] : (List Int)) := ⟨by simp only [List.length_cons, List.length_nil]; omega, fun _ _ => trivial⟩
       have q14 := ov5.1
       refine tB (tA Zc5 (by decide)) (fun x12 h13 => ?_)
       have lh13 : x12.length = v5.length + 1 := by rw [h13, List.length_append]; rfl
       refine qw (v6 + 1) fun q15 q16 => ?_
       exact tL ⟨rfl, rfl, ov1, O0, ⟨lo, fun _ _ => trivial⟩, cl, cl, cl, tk6⟩ tk82
      ·refine qw (v6 + 1) fun q17 q18 => ?_
       exact tL ⟨rfl, rfl, ov1, O0, ov5, cl, cl, cl, tk6⟩ tk82
     ·refine qw (v6 + 1) fun q19 q20 => ?_
      exact tL ⟨rfl, rfl, ov1, O0, ov5, cl, cl, cl, tk6⟩ tk82
    ·refine qw (v6 + 1) fun q21 q22 => ?_
     exact tL ⟨rfl, rfl, ov1, O0, ov5, cl, cl, cl, tk6⟩ tk82
   ·exact tR ⟨ov5, (by exact Zamy (by assumption) (by omega))⟩
def Zp2 (a0 : Zb) (a1 : (List Za)) (a2 : Zy) (a3 : Zal) : Zji → Prop
 | .L0 v1 E0 v9 E1 v11 => (E0 = a0) ∧ (v1 = a1) ∧ ((SzL 176 Zv) v1) ∧ (Zq E0) ∧ ((SzL 8 (fun _ => True)) v9) ∧ (a3.Kind = 8 ∧ (E1, v11) = tgV a2.Targets a3.N ∧ v9 = (if v11 = true ∧ E1.Object = 0 then [E1.Player] else []))
def Z3w : Zji → M6
 | .L0 v1 E0 v9 E1 v11 => (0, 0, 0, 0, 0, 0)
theorem Zhn (a0 : Zb) (a1 : (List Za)) (a2 : Zy) (a3 : Zal) (v1 : (List Za)) (E0 : Zb) (v9 : (List Int)) (E1 : Zac) (v11 : Bool) (h : (Zp2 a0 a1 a2 a3) (.L0 v1 E0 v9 E1 v11)) : Tot (Zgg v1 E0 v9 E1 v11).den (Nx (Zp2 a0 a1 a2 a3) Z3w (0, 0, 0, 0, 0, 0) (fun r => ((SzL 8 (fun _ => True)) r) ∧ (r = plV a0 a1 a2 a3))) := by
 obtain ⟨al0, al1, ov1, O0, ov9, i0⟩ := h
 have lb_v1 := ov1.1
 have lb_v9 := ov9.1
 subst al0
 subst al1
 dsimp only [Zgg, LT.den]
 refine tF (fun h1 => ?_) (fun h1 => ?_)
 ·refine tN (fun h2 => ?_) (fun h2 => ?_)
  ·refine tB (Z69 E0 E1.Object O0) (fun x3 h4 => ?_)
   have eh4_0 := h4
   refine tD (fun h5 => ?_) (fun h5 => ?_)
   ·refine tB (Z69 E0 E1.Object O0) (fun x6 h7 => ?_)
    have eh7_0 := h7
    refine tB (Zaru v1 x6 ov1) (fun x8 h9 => ?_)
    have eh9_1 := h9.2
    have q10 : (SzL 8 (fun _ => True)) ([x8.Control] : (List Int)) := ⟨by simp only [List.length_cons, List.length_nil]; omega, fun _ _ => trivial⟩
    refine tB (Zcw E0 [x8.Control] O0 q10) (fun x11 h12 => ?_)
    have eh12_1 := h12.2
    exact tR ⟨h12.1, Zpm⟩
   ·refine tB (Zcw E0 v9 O0 ov9) (fun x13 h14 => ?_)
    have eh14_1 := h14.2
    exact tR ⟨h14.1, Zpm⟩
  ·refine tB (Zcw E0 v9 O0 ov9) (fun x15 h16 => ?_)
   have eh16_1 := h16.2
   exact tR ⟨h16.1, Zpm⟩
 ·refine tB (Zcw E0 v9 O0 ov9) (fun x17 h18 => ?_)
  have eh18_1 := h18.2
  exact tR ⟨h18.1, Zpm⟩
theorem Zal8 (a0 : Zb) (a1 : (List Za)) (a2 : Zy) (a3 : Zal) (oa0 : Zq a0) (oa1 : (SzL 176 Zv) a1) (oa2 : Zcv a2) (oa3 : Zd9 a3) : Tot (Zrs a0 a1 a2 a3) (fun r => ((SzL 8 (fun _ => True)) r) ∧ (r = plV a0 a1 a2 a3)) := by
 unfold Zrs
 refine tX (Inv := (Zp2 a0 a1 a2 a3)) (μ := Z3w) (m := (1000000, 0, 0, 0, 0, 0)) ?_ ?_
 ·have lb_a1 := oa1.1
  have lq := oa0.1.1
  dsimp only [Z6w, LT.den]
  refine tB (Zaok a2 a3.N oa2) (fun x1 h2 => ?_)
  have eh2_0 := h2
  refine tE (fun h3 => ?_) (fun h3 => ?_)
  ·have q4 : (SzL 8 (fun _ => True)) ([a2.You] : (List Int)) := ⟨by simp only [List.length_cons, List.length_nil]; omega, fun _ _ => trivial⟩
   refine tB (Zcw a0 [a2.You] oa0 q4) (fun x5 h6 => ?_)
   have eh6_1 := h6.2
   exact tR ⟨h6.1, Zpm⟩
  ·refine tE (fun h7 => ?_) (fun h7 => ?_)
   ·refine tB (Z3v a0 a2.You oa0) (fun x8 h9 => ?_)
    have eh9_1 := h9.2.1
    have eh9_2 := h9.2.2
    refine tB (Zcw a0 x8 oa0 h9.1) (fun x10 h11 => ?_)
    have eh11_1 := h11.2
    exact tR ⟨h11.1, Zpm⟩
   ·refine tE (fun h12 => ?_) (fun h12 => ?_)
    ·have q13 : (SzL 8 (fun _ => True)) ([a2.You] : (List Int)) := ⟨by simp only [List.length_cons, List.length_nil]; omega, fun _ _ => trivial⟩
     refine tB (Z3v a0 a2.You oa0) (fun x14 h15 => ?_)
     have eh15_1 := h15.2.1
     have eh15_2 := h15.2.2
     have q18 := q13.1
     have q19 := h15.1.1
     refine tB (tA Zlj (by decide)) (fun x16 h17 => ?_)
     have lh17 : x16.length = [a2.You].length + x14.length := by rw [h17, List.length_append]
     try simp only [List.length_cons, List.length_nil, Nat.zero_add] at lh17
     refine tB (Zcw a0 x16 oa0 ⟨lo, fun _ _ => trivial⟩) (fun x20 h21 => ?_)
     have eh21_1 := h21.2
     exact tR ⟨h21.1, Zpm⟩
    ·refine tE (fun h22 => ?_) (fun h22 => ?_)
     ·refine tF (fun h23 => ?_) (fun h23 => ?_)
      ·refine tE (fun h24 => ?_) (fun h24 => ?_)
       ·have q25 : (SzL 8 (fun _ => True)) ([x1.1.Player] : (List Int)) := ⟨by simp only [List.length_cons, List.length_nil]; omega, fun _ _ => trivial⟩
        refine tB (Zcw a0 [x1.1.Player] oa0 q25) (fun x26 h27 => ?_)
        have eh27_1 := h27.2
        exact tR ⟨h27.1, Zpm⟩
       ·refine tB (Zcw a0 ([] : (List Int)) oa0 SzL.nil) (fun x28 h29 => ?_)
        have eh29_1 := h29.2
        exact tR ⟨h29.1, Zpm⟩
      ·refine tB (Zcw a0 ([] : (List Int)) oa0 SzL.nil) (fun x30 h31 => ?_)
       have eh31_1 := h31.2
       exact tR ⟨h31.1, Zpm⟩
     ·refine tE (fun h32 => ?_) (fun h32 => ?_)
      ·refine tF (fun h33 => ?_) (fun h33 => ?_)
       ·refine tE (fun h34 => ?_) (fun h34 => ?_)
        ·have q35 : (SzL 8 (fun _ => True)) ([x1.1.Player] : (List Int)) := ⟨by simp only [List.length_cons, List.length_nil]; omega, fun _ _ => trivial⟩
         exact tJ (Zhn a0 a1 a2 a3 a1 a0 [x1.1.Player] x1.1 x1.2 ⟨rfl, rfl, oa1, oa0, q35, (by grind)⟩)
        ·exact tJ (Zhn a0 a1 a2 a3 a1 a0 ([] : (List Int)) x1.1 x1.2 ⟨rfl, rfl, oa1, oa0, SzL.nil, (by grind)⟩)
       ·exact tJ (Zhn a0 a1 a2 a3 a1 a0 ([] : (List Int)) x1.1 x1.2 ⟨rfl, rfl, oa1, oa0, SzL.nil, (by grind)⟩)
      ·refine tB (Zcw a0 ([] : (List Int)) oa0 SzL.nil) (fun x36 h37 => ?_)
       have eh37_1 := h37.2
       exact tR ⟨h37.1, Zpm⟩
 ·intro s hs
  cases s with
  | L0 v1 E0 v9 E1 v11 => exact Zhn a0 a1 a2 a3 v1 E0 v9 E1 v11 hs
theorem Z5p (a0 : (List Zn)) (a1 : Zb) (a2 : Zco) (oa0 : (SzL 176 Zaf) a0) (oa1 : Zq a1) (oa2 : Zml a2) : Tot (Zne a0 a1 a2) (fun r => (r = true)) := by
 unfold Zne
 refine tZ ?_
 have lb_a0 := oa0.1
 dsimp only [Zs7, LT.den]
 refine tB (Zarc a0 a1 oa0 oa1) (fun x1 h2 => ?_)
 have eh2_0 := h2
 refine tO (fun h3 => ?_) (fun h3 => ?_)
 ·refine tB (Zuq) (fun x4 h5 => ?_)
  have eh5_0 := h5
  exact tR tk65
 ·have h3_0 := eh2_0 h3
  have q6 := oa2.1.1
  refine tD (fun h7 => ?_) (fun h7 => ?_)
  ·refine tB (Zuq) (fun x8 h9 => ?_)
   have eh9_0 := h9
   exact tR tk65
  ·refine tB (Zaye a0 a1 oa0 oa1 Zau cl cl) (fun x10 h11 => ?_)
   have eh11_1 := h11.2
   refine tB (Zln a1 x10 a2.Ctx a2.Ref oa1 h11.1 oa2.1 oa2.2.2) (fun x12 h13 => ?_)
   have eh13_1 := h13.2
   refine tB (Zal8 a1 x10 a2.Ctx a2.Ref oa1 h11.1 oa2.1 oa2.2.2) (fun x14 h15 => ?_)
   have eh15_1 := h15.2
   refine tB (Zg2 x12 x14 h13.1 h15.1) (fun x16 h17 => ?_)
   have eh17_0 := h17
   refine tF (fun h18 => ?_) (fun h18 => ?_)
   ·refine tB (Zuq) (fun x19 h20 => ?_)
    have eh20_0 := h20
    exact tR tk65
   ·exact tR tk65
end Go.PW
