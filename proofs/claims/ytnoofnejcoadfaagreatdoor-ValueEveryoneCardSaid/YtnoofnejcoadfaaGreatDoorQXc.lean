import Derived.Test.YtnoofnejcoadfaaGreatDoorQXb
set_option linter.all false
set_option maxRecDepth 100000
namespace Go.PW
def Zad9 (a0 : Zb) : Zi8 → Prop
 | .L0 E0 v3 v4 => (E0 = a0) ∧ (Zp E0) ∧ ((SzL 8 (fun _ => True)) v3) ∧ (0 ≤ v4) ∧ (v3 = Zna E0.Players v4) ∧ (v3.length ≤ v4.toNat) ∧ (v4 ≤ (E0.Players.length : Int))
def Z0p : Zi8 → M6
 | .L0 E0 v3 v4 => (1, ((E0.Players.length : Int) - v4).toNat, 1000000, 0, 0, 0)
theorem Zaea (a0 : Zb) (oa0 : Zp a0) : Tot (Zrb a0) (fun r => ((SzL 8 (fun _ => True)) r) ∧ (r = Zeg a0.Players)) := by
 unfold Zrb
 refine tX (Inv := (Zad9 a0)) (μ := Z0p) (m := (1000000, 0, 0, 0, 0, 0)) ?_ ?_
 ·dsimp only [Z20, LT.den]
  exact tL ⟨rfl, oa0, SzL.nil, cl, tk5, cl, cl⟩ tk80
 ·intro s hs
  cases s with
  | L0 E0 v3 v4 =>
   obtain ⟨al0, ob30000000, ov3, cv4, i0, i1, i2⟩ := hs
   have lb_v3 := ov3.1
   subst al0
   show Tot (Zp7 E0 v3 v4).den _
   dsimp only [Zp7, LT.den]
   have q1 := ob30000000.1.1
   refine tD (fun h2 => ?_) (fun h2 => ?_)
   ·refine tB (tI (by omega) (by omega)) (fun x3 h4 => ?_)
    have oh4 : Zbx x3 := ob30000000.1.2 x3 h4.1
    have mh4 := h4.2
    refine tO (fun h5 => ?_) (fun h5 => ?_)
    ·have q6 : (SzL 8 (fun _ => True)) ([v4] : (List Int)) := ⟨by simp only [List.length_cons, List.length_nil]; omega, fun _ _ => trivial⟩
     have q9 := ov3.1
     refine tB (tA Znb (by decide)) (fun x7 h8 => ?_)
     have lh8 : x7.length = v3.length + 1 := by rw [h8, List.length_append]; rfl
     refine qw (v4 + 1) fun q10 q11 => ?_
     exact tL ⟨rfl, ob30000000, ⟨lo, fun _ _ => trivial⟩, cl, tk5, cl, cl⟩ tk80
    ·refine qw (v4 + 1) fun q12 q13 => ?_
     exact tL ⟨rfl, ob30000000, ov3, cl, tk5, cl, cl⟩ tk80
   ·exact tR ⟨ov3, (by exact Zakf (by assumption) (by omega) (by omega))⟩
abbrev Zvg (a0 : (List Int)) (a1 : Int) (r : (List Int)) : Prop := ((SzL 8 (fun _ => True)) r) ∧ (r.length ≤ a0.length + 1) ∧ (r = Zhv a0 a1 false)
def Zod (a0 : (List Int)) (a1 : Int) : Zhc → Prop
 | .L0 v0 v1 v5 v6 v7 => (v0 = a0) ∧ (v1 = a1) ∧ ((SzL 8 (fun _ => True)) v0) ∧ ((SzL 8 (fun _ => True)) v5) ∧ (0 ≤ v7) ∧ (v0.length ≤ 1000000) ∧ (v5.length ≤ v7.toNat + 1) ∧ (v6 = false → v5.length ≤ v7.toNat) ∧ (v7 ≤ (v0.length : Int)) ∧ (v5 ++ Zhv (v0.drop v7.toNat) v1 v6 = Zhv v0 v1 false)
 | .L1 v0 v1 v5 v6 v7 => (v0 = a0) ∧ (v1 = a1) ∧ ((SzL 8 (fun _ => True)) v0) ∧ ((SzL 8 (fun _ => True)) v5) ∧ (0 ≤ v7) ∧ (v7 < (v0.length : Int)) ∧ (v0.length ≤ 1000000) ∧ (v5.length ≤ v7.toNat + 1) ∧ (v6 = false → v5.length ≤ v7.toNat) ∧ (v7 < (v0.length : Int)) ∧ (0 ≤ v7) ∧ (∀ x, v0[v7.toNat]? = some x → v5 ++ ((if x ≠ v1 then [x] else []) ++ Zhv (v0.drop (v7 + 1).toNat) v1 v6) = Zhv v0 v1 false)
def Zk5 : Zhc → M6
 | .L0 v0 v1 v5 v6 v7 => (1, ((v0.length : Int) - v7).toNat, 1000000, 0, 0, 0)
 | .L1 v0 v1 v5 v6 v7 => (1, ((v0.length : Int) - v7).toNat, 0, 0, 0, 0)
theorem Zg1 (a0 : (List Int)) (a1 : Int) (v0 : (List Int)) (v1 : Int) (v5 : (List Int)) (v6 : Bool) (v7 : Int) (h : (Zod a0 a1) (.L1 v0 v1 v5 v6 v7)) : Tot (Zgl v0 v1 v5 v6 v7).den (Nx (Zod a0 a1) Zk5 (1, ((v0.length : Int) - v7).toNat, 0, 0, 0, 0) (Zvg a0 a1)) := by
 obtain ⟨al0, al1, ov0, ov5, cv7, bd5, i0, i1, i2, i3, i4, i5⟩ := h
 have lb_v0 := ov0.1
 have lb_v5 := ov5.1
 subst al0
 subst al1
 dsimp only [Zgl, LT.den]
 have lx_0 : v0.length * 8 ≤ 140737488351232 := ov0.1
 refine tB (tI (by omega) (by omega)) (fun x1 h2 => ?_)
 have mh2 := h2.2
 refine tN (fun h3 => ?_) (fun h3 => ?_)
 ·have q4 : (SzL 8 (fun _ => True)) ([x1] : (List Int)) := ⟨by simp only [List.length_cons, List.length_nil]; omega, fun _ _ => trivial⟩
  have q7 := ov5.1
  refine tB (tA Znb (by decide)) (fun x5 h6 => ?_)
  have lh6 : x5.length = v5.length + 1 := by rw [h6, List.length_append]; rfl
  refine qw (v7 + 1) fun q8 q9 => ?_
  exact tL ⟨rfl, rfl, ov0, ⟨lo, fun _ _ => trivial⟩, cl, cl, cl, tk54, cl, (by first | rfl | grind)⟩ tk83
 ·refine qw (v7 + 1) fun q10 q11 => ?_
  exact tL ⟨rfl, rfl, ov0, ov5, cl, cl, cl, tk54, cl, (by first | rfl | grind)⟩ tk83
theorem Zaeb (a0 : (List Int)) (a1 : Int) (oa0 : (SzL 8 (fun _ => True)) a0) (h0 : a0.length ≤ 1000000) : Tot (Zze a0 a1) (Zvg a0 a1) := by
 unfold Zze
 refine tX (Inv := (Zod a0 a1)) (μ := Zk5) (m := (1000000, 0, 0, 0, 0, 0)) ?_ ?_
 ·have lb_a0 := oa0.1
  dsimp only [Z22, LT.den]
  exact tL ⟨rfl, rfl, oa0, SzL.nil, cl, cl, cl, tk54, cl, (by first | rfl | grind)⟩ tk83
 ·intro s hs
  cases s with
  | L0 v0 v1 v5 v6 v7 =>
   obtain ⟨al0, al1, ov0, ov5, cv7, i0, i1, i2, i3, i4⟩ := hs
   have lb_v0 := ov0.1
   have lb_v5 := ov5.1
   subst al0
   subst al1
   show Tot (Zp8 v0 v1 v5 v6 v7).den _
   dsimp only [Zp8, LT.den, Zk5]
   have q1 := ov0.1
   refine tD (fun h2 => ?_) (fun h2 => ?_)
   ·refine tO (fun h3 => ?_) (fun h3 => ?_)
    ·have wh3 := i2 h3
     refine tB (tI (by omega) (by omega)) (fun x4 h5 => ?_)
     have mh5 := h5.2
     refine tD (fun h6 => ?_) (fun h6 => ?_)
     ·have q7 : (SzL 8 (fun _ => True)) ([v1] : (List Int)) := ⟨by simp only [List.length_cons, List.length_nil]; omega, fun _ _ => trivial⟩
      have q10 := ov5.1
      refine tB (tA Znb (by decide)) (fun x8 h9 => ?_)
      have lh9 : x8.length = v5.length + 1 := by rw [h9, List.length_append]; rfl
      exact tJ (Zg1 v0 v1 v0 v1 x8 true v7 ⟨rfl, rfl, ov0, ⟨lo, fun _ _ => trivial⟩, cl, cl, cl, cl, tk54, cl, cl, tk26⟩)
     ·exact tJ (Zg1 v0 v1 v0 v1 v5 v6 v7 ⟨rfl, rfl, ov0, ov5, cl, cl, cl, cl, tk54, cl, cl, tk26⟩)
    ·exact tJ (Zg1 v0 v1 v0 v1 v5 v6 v7 ⟨rfl, rfl, ov0, ov5, cl, cl, cl, cl, tk54, cl, cl, tk26⟩)
   ·refine tO (fun h11 => ?_) (fun h11 => ?_)
    ·have wh11 := i2 h11
     have q12 : (SzL 8 (fun _ => True)) ([v1] : (List Int)) := ⟨by simp only [List.length_cons, List.length_nil]; omega, fun _ _ => trivial⟩
     have q15 := ov5.1
     refine tB (tA Znb (by decide)) (fun x13 h14 => ?_)
     have lh14 : x13.length = v5.length + 1 := by rw [h14, List.length_append]; rfl
     exact tR ⟨⟨lo, fun _ _ => trivial⟩, cl, tk30⟩
    ·exact tR ⟨ov5, cl, tk30⟩
  | L1 v0 v1 v5 v6 v7 => exact Zg1 a0 a1 v0 v1 v5 v6 v7 hs
abbrev Zamg (a0 : (List Int)) (r : (List Int)) : Prop := ((SzL 8 (fun _ => True)) r) ∧ (r.length ≤ a0.length) ∧ (r = setV a0)
def Zapb (a0 : (List Int)) : Zth → Prop
 | .L0 v0 v3 v4 => (v0 = a0) ∧ ((SzL 8 (fun _ => True)) v0) ∧ ((SzL 8 (fun _ => True)) v3) ∧ (0 ≤ v4) ∧ (v0.length ≤ 100000) ∧ (v3.length ≤ v4.toNat) ∧ (v4 ≤ (v0.length : Int)) ∧ (v3 = (v0.take v4.toNat).foldl (fun a n => Zhv a n false) [])
def Z3r : Zth → M6
 | .L0 v0 v3 v4 => (1, ((v0.length : Int) - v4).toNat, 1000000, 0, 0, 0)
theorem Zapc (a0 : (List Int)) (oa0 : (SzL 8 (fun _ => True)) a0) (h0 : a0.length ≤ 100000) : Tot (Zab2 a0) (Zamg a0) := by
 unfold Zab2
 refine tX (Inv := (Zapb a0)) (μ := Z3r) (m := (1000000, 0, 0, 0, 0, 0)) ?_ ?_
 ·have lb_a0 := oa0.1
  dsimp only [Zaj8, LT.den]
  exact tL ⟨rfl, oa0, SzL.nil, cl, cl, cl, cl, tk33⟩ (by unfold Z3r lt6; dsimp only; omega)
 ·intro s hs
  cases s with
  | L0 v0 v3 v4 =>
   obtain ⟨al0, ov0, ov3, cv4, i0, i1, i2, i3⟩ := hs
   have lb_v0 := ov0.1
   have lb_v3 := ov3.1
   subst al0
   show Tot (Z24 v0 v3 v4).den _
   dsimp only [Z24, LT.den]
   have q1 := ov0.1
   refine tD (fun h2 => ?_) (fun h2 => ?_)
   ·refine tB (tI (by omega) (by omega)) (fun x3 h4 => ?_)
    have mh4 := h4.2
    refine tB (Zaeb v3 x3 ov3 cl) (fun x5 h6 => ?_)
    have eh6_1 := h6.2.1
    have eh6_2 := h6.2.2
    refine qw (v4 + 1) fun q7 q8 => ?_
    exact tL ⟨rfl, ov0, h6.1, cl, cl, cl, cl, tk33⟩ (by unfold Z3r lt6; dsimp only; omega)
   ·exact tR ⟨ov3, cl, (by unfold setV; rw [List.take_of_length_le (by omega)] at *; assumption)⟩
theorem Zyf (a0 : (List Zq)) (a1 : Zb) (a2 : Int) (oa0 : (SzL 176 Zal) a0) (oa1 : Zp a1) : Tot (Zj0 a0 a1 a2) (fun r => (r = true)) := by
 unfold Zj0
 refine tZ ?_
 have lb_a0 := oa0.1
 dsimp only [Znn, LT.den]
 refine tB (Zagm a0 a1 oa0 oa1) (fun x1 h2 => ?_)
 have eh2_0 := h2
 refine tO (fun h3 => ?_) (fun h3 => ?_)
 ·refine tB (Zk4) (fun x4 h5 => ?_)
  have eh5_0 := h5
  exact tR Z3b
 ·have h3_0 := eh2_0 h3
  refine tD (fun h6 => ?_) (fun h6 => ?_)
  ·refine tB (Zk4) (fun x7 h8 => ?_)
   have eh8_0 := h8
   exact tR Z3b
  ·have q9 := oa1.1.1
   refine tD (fun h10 => ?_) (fun h10 => ?_)
   ·refine tB (Zk4) (fun x11 h12 => ?_)
    have eh12_0 := h12
    exact tR Z3b
   ·refine tB (Zd4 a1 ([] : (List Zd)) (⟨a2, 0, 0, ([] : (List Zx)), (⟨0, 0, 0, 0, 0, 0, 0, 0, 0, 0, false, false, (⟨0, 0, 0⟩ : (A3 Int))⟩ : Zbi)⟩ : Zo) (⟨1, 0, (⟨0, 0, 0, 0, 0, 0, 0, ([] : List UInt8), 0, 0, (⟨0, 0⟩ : Za), (⟨0, 0⟩ : Za), (⟨0, 0⟩ : Za)⟩ : Zc)⟩ : Z4) oa1 SzL.nil SzL.nil (SzS.nil)) (fun x13 h14 => ?_)
    have eh14_1 := h14.2
    have lh14 : x13.length ≤ 1 + 2 * a1.Players.length := by rw [eh14_1]; exact Z39 _ _ _ _
    refine tB (Zd4 a1 ([] : (List Zd)) (⟨a2, 0, 0, ([] : (List Zx)), (⟨0, 0, 0, 0, 0, 0, 0, 0, 0, 0, false, false, (⟨0, 0, 0⟩ : (A3 Int))⟩ : Zbi)⟩ : Zo) (⟨5, 0, (⟨0, 0, 0, 0, 0, 0, 0, ([] : List UInt8), 0, 0, (⟨0, 0⟩ : Za), (⟨0, 0⟩ : Za), (⟨0, 0⟩ : Za)⟩ : Zc)⟩ : Z4) oa1 SzL.nil SzL.nil (SzS.nil)) (fun x15 h16 => ?_)
    have eh16_1 := h16.2
    have lh16 : x15.length ≤ 1 + 2 * a1.Players.length := by rw [eh16_1]; exact Z39 _ _ _ _
    refine tB (Zd4 a1 ([] : (List Zd)) (⟨a2, 0, 0, ([] : (List Zx)), (⟨0, 0, 0, 0, 0, 0, 0, 0, 0, 0, false, false, (⟨0, 0, 0⟩ : (A3 Int))⟩ : Zbi)⟩ : Zo) (⟨6, 0, (⟨0, 0, 0, 0, 0, 0, 0, ([] : List UInt8), 0, 0, (⟨0, 0⟩ : Za), (⟨0, 0⟩ : Za), (⟨0, 0⟩ : Za)⟩ : Zc)⟩ : Z4) oa1 SzL.nil SzL.nil (SzS.nil)) (fun x17 h18 => ?_)
    have eh18_1 := h18.2
    have lh18 : x17.length ≤ 1 + 2 * a1.Players.length := by rw [eh18_1]; exact Z39 _ _ _ _
    have q21 := h14.1.1
    refine tB (tA tk48 (by decide)) (fun x19 h20 => ?_)
    have lh20 : x19.length = ([] : (List Int)).length + x13.length := by rw [h20, List.length_append]
    try simp only [List.length_cons, List.length_nil, Nat.zero_add] at lh20
    have q24 : x19.length * 8 ≤ 140737488351232 := (show SzL 8 (fun _ => True) x19 from ⟨lo, fun _ _ => trivial⟩).1
    have q25 := h16.1.1
    refine tB (tA tk48 (by decide)) (fun x22 h23 => ?_)
    have lh23 : x22.length = x19.length + x15.length := by rw [h23, List.length_append]
    try simp only [List.length_cons, List.length_nil, Nat.zero_add] at lh23
    refine tB (Zhf x17 x22 h18.1 ⟨lo, fun _ _ => trivial⟩) (fun x26 h27 => ?_)
    have eh27_0 := h27
    refine tF (fun h28 => ?_) (fun h28 => ?_)
    ·refine tB (Zapc x17 h18.1 cl) (fun x29 h30 => ?_)
     have eh30_1 := h30.2.1
     have eh30_2 := h30.2.2
     refine tB (Zaea a1 oa1) (fun x31 h32 => ?_)
     have eh32_1 := h32.2
     refine tB (Zhf x29 x31 h30.1 h32.1) (fun x33 h34 => ?_)
     have eh34_0 := h34
     refine tF (fun h35 => ?_) (fun h35 => ?_)
     ·refine tB (Zamf x15 a2 h16.1) (fun x36 h37 => ?_)
      have eh37_0 := h37
      refine tO (fun h38 => ?_) (fun h38 => ?_)
      ·refine tB (Zd4 a1 ([] : (List Zd)) (⟨a2, 0, 0, ([] : (List Zx)), (⟨0, 0, 0, 0, 0, 0, 0, 0, 0, 0, false, false, (⟨0, 0, 0⟩ : (A3 Int))⟩ : Zbi)⟩ : Zo) (⟨2, 0, (⟨0, 0, 0, 0, 0, 0, 0, ([] : List UInt8), 0, 0, (⟨0, 0⟩ : Za), (⟨0, 0⟩ : Za), (⟨0, 0⟩ : Za)⟩ : Zc)⟩ : Z4) oa1 SzL.nil SzL.nil (SzS.nil)) (fun x39 h40 => ?_)
       have eh40_1 := h40.2
       have lh40 : x39.length ≤ 1 + 2 * a1.Players.length := by rw [eh40_1]; exact Z39 _ _ _ _
       have q41 := h40.1.1
       refine tE (fun h42 => ?_) (fun h42 => ?_)
       ·refine tB (Zk4) (fun x43 h44 => ?_)
        have eh44_0 := h44
        exact tR Z3b
       ·exact tR Z3b
      ·exact tR Z3b
     ·exact tR Z3b
    ·exact tR Z3b
end Go.PW
