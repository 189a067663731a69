import Derived.Test.YtloamjgjcjandaaGreatQE
import Derived.Test.YtloamjgjcjandaaGreatPwYc
import Derived.Test.YtloamjgjcjandaaGreatQDc
set_option linter.all false
set_option maxRecDepth 100000
namespace Go.PW
abbrev Zod (x : Zg4) : Prop := (SzL 16 SzT) x.Subs
theorem Zafw {x : Zg4} (h : Zzz x) : Zod x := (Zeo h.2.2 (fun _ h => Zauh h))
abbrev Za8 (x : Zi) : Prop := SzS x.Sub
theorem Zfa {x : Zi} (h : Zfb x) : Za8 x := (Zadz h.2.2.2.2.2.2.2.1)
abbrev Za1 (x : Zj) : Prop := SzS x.Sub ∧ Za8 x.Filter
theorem Zt4 {x : Zj} (h : Zqq x) : Za1 x := ⟨(Zadz h.2.2.2.1), (Zfa h.2.2.2.2)⟩
abbrev Zjj (x : Zce) : Prop := Za8 x.Filter
theorem Z6w {x : Zce} (h : Zrq x) : Zjj x := (Zfa h.2.2)
abbrev Zhh (x : Zaz) : Prop := Za8 x.Filter
theorem Zafx {x : Zaz} (h : Zz0 x) : Zhh x := (Zfa h.2.2)
abbrev Zkd (x : Zeq) : Prop := Za8 x.Filter
theorem Zahi {x : Zeq} (h : Z2b x) : Zkd x := (Zfa h.2.2)
abbrev Zt5 (x : Zcf) : Prop := Za8 x.Filter
theorem Zaae {x : Zcf} (h : Zt0 x) : Zt5 x := (Zfa h.2.2.2)
abbrev Z9 (x : Zm) : Prop := Zkd x.Ref ∧ Zt5 x.Amount ∧ SzS x.Card ∧ Za8 x.Filter ∧ (SzL 176 Za1) x.Mods
theorem Zaaf {x : Zm} (h : Zt1 x) : Z9 x := ⟨(Zahi h.2.1), (Zaae h.2.2.1), (Zadz h.2.2.2.2.2.1), (Zfa h.2.2.2.2.2.2.1), (Zeo h.2.2.2.2.2.2.2.2 (fun _ h => (Zt4 h)))⟩
abbrev Zd0 (x : Za2) : Prop := Za8 x.Filter
theorem Z6x {x : Za2} (h : Zrr x) : Zd0 x := (Zfa h.2.2.1)
abbrev Za0 (x : Zl) : Prop := Za8 x.Filter ∧ (SzL 176 Za1) x.Mods ∧ Zjj x.Trigger ∧ (SzL 144 Zhh) x.Specs ∧ (SzL 560 Z9) x.Effects ∧ Zd0 x.Replace
theorem Znk {x : Zl} (h : Zji x) : Za0 x := ⟨(Zfa h.2.1), (Zeo h.2.2.1 (fun _ h => (Zt4 h))), (Z6w h.2.2.2.2.2.1), (Zeo h.2.2.2.2.2.2.2.1 (fun _ h => (Zafx h))), (Zeo h.2.2.2.2.2.2.2.2.1 (fun _ h => (Zaaf h))), (Z6x h.2.2.2.2.2.2.2.2.2)⟩
abbrev Zai (x : Zs) : Prop := SzS x.Name ∧ Zod x.Line ∧ (SzL 640 Za0) x.Abilities
theorem Zafy {x : Zs} (h : Zz1 x) : Zai x := ⟨(Zadz h.1), (Zafw h.2.2.2.2.1), (Zeo h.2.2.2.2.2.2.2.2 (fun _ h => (Znk h)))⟩
abbrev Zf0 (x : Zv) : Prop := (SzL 8 (fun _ => True)) x.Library ∧ (SzL 8 (fun _ => True)) x.Hand ∧ (SzL 8 (fun _ => True)) x.Graveyard
theorem Zaag {x : Zv} (h : Zt2 x) : Zf0 x := ⟨(Zeo h.2.2.2.2.2.2.1 (fun _ _ => trivial)), (Zeo h.2.2.2.2.2.2.2.1 (fun _ _ => trivial)), (Zeo h.2.2.2.2.2.2.2.2 (fun _ _ => trivial))⟩
abbrev Zfx (x : Z4) : Prop := Za0 x.Ability ∧ (SzL 16 (fun _ => True)) x.Targets
theorem Zafz {x : Z4} (h : Zz2 x) : Zfx x := ⟨(Znk h.2.2.2.2.2.2.1), (Zeo h.2.2.2.2.2.2.2.1 (fun _ _ => trivial))⟩
abbrev Zhb (x : Zz) : Prop := Za0 x.Ability
theorem Z6y {x : Zz} (h : Zrs x) : Zhb x := (Znk h.2.2.1)
abbrev Zi1 (x : Zaf) : Prop := (SzL 8 (fun _ => True)) x.Objects ∧ (SzL 176 Za1) x.Mods
theorem Zaf0 {x : Zaf} (h : Zz3 x) : Zi1 x := ⟨(Zeo h.2.2.2.2.1 (fun _ _ => trivial)), (Zeo h.2.2.2.2.2 (fun _ h => (Zt4 h)))⟩
abbrev Zw (x : Za) : Prop := (SzL 152 Zf0) x.Players ∧ (SzL 128 (fun _ => True)) x.Objects ∧ (SzL 8 (fun _ => True)) x.Battlefield ∧ (SzL 8 (fun _ => True)) x.Exile ∧ (SzL 824 Zfx) x.Stack ∧ (SzL 768 Zhb) x.Waiting ∧ (SzL 80 Zi1) x.Conts ∧ (SzL 8 (fun _ => True)) x.Extra
theorem Zyl {x : Za} (h : Zqr x) : Zw x := ⟨(Zeo h.1 (fun _ h => (Zaag h))), (Zeo h.2.1 (fun _ _ => trivial)), (Zeo h.2.2.1 (fun _ _ => trivial)), (Zeo h.2.2.2.1 (fun _ _ => trivial)), (Zeo h.2.2.2.2.1 (fun _ h => (Zafz h))), (Zeo h.2.2.2.2.2.1 (fun _ h => (Z6y h))), (Zeo h.2.2.2.2.2.2.1 (fun _ h => (Zaf0 h))), (Zeo h.2.2.2.2.2.2.2.2.2.2.2.2.2.2.2.2.1 (fun _ _ => trivial))⟩
abbrev Zio (x : Za9) : Prop := (SzL 24 (fun _ => True)) x.Options
theorem Zaah {x : Za9} (h : Zt3 x) : Zio x := (Zeo h.2.2.2.2.2.2 (fun _ _ => trivial))
abbrev Zfy (x : Z0) : Prop := (SzL 176 Zai) x.Cards ∧ Zw x.State ∧ (SzL 24 (SzL 8 (fun _ => True))) x.Answers ∧ Zio x.Pending ∧ (SzL 280 Zw) x.Seen
theorem Zaf1 {x : Z0} (h : Z8v x) : Zfy x := ⟨(Zeo h.1 (fun _ h => (Zafy h))), (Zyl h.2.1), (Zeo h.2.2.1 (fun _ h => (Zeo h (fun _ _ => trivial)))), (Zaah h.2.2.2.1), (Zeo h.2.2.2.2.2 (fun _ h => (Zyl h)))⟩
abbrev Zz4 (x : Zb4) : Prop := (SzL 8 (fun _ => True)) x.Graveyard
abbrev Zz5 (x : Zab) : Prop := (SzL 120 Zz4) x.Players ∧ (SzL 8 (fun _ => True)) x.Hand ∧ (SzL 128 (fun _ => True)) x.Objects ∧ (SzL 8 (fun _ => True)) x.Battlefield ∧ (SzL 8 (fun _ => True)) x.Exile ∧ (SzL 824 Zfx) x.Stack ∧ (SzL 768 Zhb) x.Waiting ∧ (SzL 80 Zi1) x.Conts ∧ (SzL 8 (fun _ => True)) x.Extra ∧ Zio x.Pending
theorem Z8w (a0 : Int) : Tot (Zafj a0) (fun r => True) := by
 unfold Zafj
 refine tZ ?_
 dsimp only [Zagn, LT.den]
 refine tD (fun h1 => ?_) (fun h1 => ?_)
 ·exact tR trivial
 ·exact tR trivial
def Z2c : Zrb → Prop
 | .L0 v0 v3 => (SzT v0) ∧ (0 ≤ v3)
 | .L1 v0 v3 => (SzT v0) ∧ (0 ≤ v3) ∧ (v3 < (v0.length : Int)) ∧ (0 ≤ v3) ∧ (v3 < v0.length)
def Zmi : Zrb → M6
 | .L0 v0 v3 => (1, ((v0.length : Int) - v3).toNat, 1000000, 0, 0, 0)
 | .L1 v0 v3 => (1, ((v0.length : Int) - v3).toNat, 0, 0, 0, 0)
theorem Zku (v0 : (List UInt8)) (v3 : Int) (h : (SzT v0) ∧ (0 ≤ v3) ∧ (v3 < (v0.length : Int)) ∧ (0 ≤ v3) ∧ (v3 < v0.length)) : Tot (Zlu v0 v3).den (Nx Z2c Zmi (1, ((v0.length : Int) - v3).toNat, 0, 0, 0, 0) (fun r => True)) := by
 obtain ⟨ov0, cv3, bd2, i0, i1⟩ := h
 have lb_v0 : v0.length ≤ 562949953421312 := ov0
 dsimp only [Zlu, LT.den]
 refine tD (fun h1 => ?_) (fun h1 => ?_)
 ·refine tB (tI (by omega) (by omega)) (fun x2 h3 => ?_)
  refine tE (fun h4 => ?_) (fun h4 => ?_)
  ·have q5 : -9223372036854775808 ≤ (v3 - 1) → (v3 - 1) < 9223372036854775808 → IntKind.wrap .i64 (v3 - 1) = (v3 - 1) := Zao _
   have q6 : -9223372036854775808 ≤ IntKind.wrap .i64 (v3 - 1) ∧ IntKind.wrap .i64 (v3 - 1) < 9223372036854775808 := Zap _
   refine tB (tI (by omega) (by omega)) (fun x7 h8 => ?_)
   refine tE (fun h9 => ?_) (fun h9 => ?_)
   ·exact tR trivial
   ·have q10 : -9223372036854775808 ≤ (v3 + 1) → (v3 + 1) < 9223372036854775808 → IntKind.wrap .i64 (v3 + 1) = (v3 + 1) := Zao _
    have q11 : -9223372036854775808 ≤ IntKind.wrap .i64 (v3 + 1) ∧ IntKind.wrap .i64 (v3 + 1) < 9223372036854775808 := Zap _
    exact tL ⟨ov0, cl⟩ (by unfold Zmi lt6; dsimp only; omega)
  ·have q12 : -9223372036854775808 ≤ (v3 + 1) → (v3 + 1) < 9223372036854775808 → IntKind.wrap .i64 (v3 + 1) = (v3 + 1) := Zao _
   have q13 : -9223372036854775808 ≤ IntKind.wrap .i64 (v3 + 1) ∧ IntKind.wrap .i64 (v3 + 1) < 9223372036854775808 := Zap _
   exact tL ⟨ov0, cl⟩ (by unfold Zmi lt6; dsimp only; omega)
 ·have q14 : -9223372036854775808 ≤ (v3 + 1) → (v3 + 1) < 9223372036854775808 → IntKind.wrap .i64 (v3 + 1) = (v3 + 1) := Zao _
  have q15 : -9223372036854775808 ≤ IntKind.wrap .i64 (v3 + 1) ∧ IntKind.wrap .i64 (v3 + 1) < 9223372036854775808 := Zap _
  exact tL ⟨ov0, cl⟩ (by unfold Zmi lt6; dsimp only; omega)
theorem Zahj (v0 : (List UInt8)) (v3 : Int) (h : (SzT v0) ∧ (0 ≤ v3)) : Tot (Z31 v0 v3).den (Nx Z2c Zmi (1, ((v0.length : Int) - v3).toNat, 1000000, 0, 0, 0) (fun r => True)) := by
 obtain ⟨ov0, cv3⟩ := h
 have lb_v0 : v0.length ≤ 562949953421312 := ov0
 dsimp only [Z31, LT.den]
 have q1 : v0.length ≤ 562949953421312 := ov0
 refine tD (fun h2 => ?_) (fun h2 => ?_)
 ·refine tB (tI (by omega) (by omega)) (fun x3 h4 => ?_)
  refine tB (Z8w (UInt8.toNat x3 : Int)) (fun x5 h6 => ?_)
  refine tO (fun h7 => ?_) (fun h7 => ?_)
  ·refine tB (tI (by omega) (by omega)) (fun x8 h9 => ?_)
   refine tD (fun h10 => ?_) (fun h10 => ?_)
   ·refine tB (tI (by omega) (by omega)) (fun x11 h12 => ?_)
    refine tN (fun h13 => ?_) (fun h13 => ?_)
    ·exact tR trivial
    ·exact tJ (Zku v0 v3 ⟨ov0, cl, cl, cl, cl⟩)
   ·refine tB (tI (by omega) (by omega)) (fun x14 h15 => ?_)
    refine tD (fun h16 => ?_) (fun h16 => ?_)
    ·refine tB (tI (by omega) (by omega)) (fun x17 h18 => ?_)
     refine tN (fun h19 => ?_) (fun h19 => ?_)
     ·exact tR trivial
     ·exact tJ (Zku v0 v3 ⟨ov0, cl, cl, cl, cl⟩)
    ·exact tJ (Zku v0 v3 ⟨ov0, cl, cl, cl, cl⟩)
  ·exact tJ (Zku v0 v3 ⟨ov0, cl, cl, cl, cl⟩)
 ·exact tR trivial
theorem Z2d (a0 : (List UInt8)) (oa0 : SzT a0) : Tot (Zajx a0) (fun r => True) := by
 unfold Zajx
 refine tX (Inv := Z2c) (μ := Zmi) (m := (1000000, 0, 0, 0, 0, 0)) ?_ ?_
 ·have lb_a0 : a0.length ≤ 562949953421312 := oa0
  dsimp only [Zajv, LT.den]
  have q1 : a0.length ≤ 562949953421312 := oa0
  refine tD (fun h2 => ?_) (fun h2 => ?_)
  ·exact tR trivial
  ·refine tD (fun h3 => ?_) (fun h3 => ?_)
   ·exact tR trivial
   ·refine tB (tI (by omega) (by omega)) (fun x4 h5 => ?_)
    refine tB (Z8w (UInt8.toNat x4 : Int)) (fun x6 h7 => ?_)
    refine tO (fun h8 => ?_) (fun h8 => ?_)
    ·exact tR trivial
    ·have q9 : -9223372036854775808 ≤ ((a0.length : Int) - 1) → ((a0.length : Int) - 1) < 9223372036854775808 → IntKind.wrap .i64 ((a0.length : Int) - 1) = ((a0.length : Int) - 1) := Zao _
     have q10 : -9223372036854775808 ≤ IntKind.wrap .i64 ((a0.length : Int) - 1) ∧ IntKind.wrap .i64 ((a0.length : Int) - 1) < 9223372036854775808 := Zap _
     refine tB (tI (by omega) (by omega)) (fun x11 h12 => ?_)
     refine tE (fun h13 => ?_) (fun h13 => ?_)
     ·exact tR trivial
     ·exact tL ⟨oa0, cl⟩ (by unfold Zmi lt6; dsimp only; omega)
 ·intro s hs
  cases s with
  | L0 v0 v3 => exact Zahj v0 v3 hs
  | L1 v0 v3 => exact Zku v0 v3 hs
def Zw4 (n m : Int) : Bool := decide (n ≥ 0) && decide (n ≤ m)
def Zad0 (c : Zay) : Bool := Zw4 c.Generic 99 && (Zw4 c.X 2 && c.Color.list.all fun n => Zw4 n 9)
theorem Zapi (c : Zay) : Zabw c = some (Zad0 c) := by
 unfold Zabw LF.run; dsimp only [Zajy, LT.den]
 have hl : Zaw Zrd.step (.L0 c 0) = some (c.Color.list.all fun n => Zw4 n 9) := by
  have := Zal5 (st := fun i => Zrc.L0 c (i : Int)) (step := Zrd.step) (bad := false) c.Color.list (fun n => Zw4 n 9) (fun i x hx => by
   have hi := (List.getElem?_eq_some_iff.1 hx).1
   have hi : i < 5 := hi
   show (Zxr _ _).den = _
   dsimp only [Zxr, LT.den]
   rw [decide_eq_true (by omega), Z8 hx, Zqn (by omega) (by omega)]
   simp only [cond_true, Option.bind_some]
   unfold Zw4
   by_cases h1 : x < 0
   ·rw [decide_eq_true h1, decide_eq_false (show ¬ x ≥ 0 by omega)]; rfl
   ·rw [decide_eq_false h1, decide_eq_true (show x ≥ 0 by omega)]
    by_cases h2 : x > 9
    ·rw [decide_eq_true h2, decide_eq_false (show ¬ x ≤ 9 by omega)]; rfl
    ·rw [decide_eq_false h2, decide_eq_true (show x ≤ 9 by omega)]; rfl)
  rw [show (Zrc.L0 c 0) = .L0 c ((0 : Nat) : Int) from rfl, this]
  have he : Zaw Zrd.step (.L0 c ((c.Color.list.length : Nat) : Int)) = some true := by
   refine Za7 ?_
   show (Zxr c 5).den = _
   rfl
  rw [he]
  cases c.Color.list.all fun n => Zw4 n 9 <;> rfl
 refine (Zady fun _ => Zady fun _ => Zady fun _ => Zady fun _ => (show Option.bind (some (Sum.inl (Zrc.L0 c 0))) (Zls Zrd.step) = some (c.Color.list.all fun n => Zw4 n 9) from hl)).trans ?_
 congr 1
 unfold Zad0 Zw4
 rw [Bool.eq_iff_iff]
 simp only [Bool.and_eq_true, Bool.not_eq_true', decide_eq_false_iff_not, decide_eq_true_eq, ge_iff_le, gt_iff_lt, Int.not_lt]
 constructor
 ·rintro ⟨h1, h2, h3, h4, h5⟩; exact ⟨⟨h1, h2⟩, ⟨h3, h4⟩, h5⟩
 ·rintro ⟨⟨h1, h2⟩, ⟨h3, h4⟩, h5⟩; exact ⟨h1, h2, h3, h4, h5⟩
theorem Z2e (a0 : Zay) : Tot (Zabw a0) (fun r => (r = true → a0.X ≤ 2) ∧ (r = true → ∀ n, n ∈ A5.list a0.Color → n ≤ 9)) := by
 refine ⟨_, Zapi a0, fun h => ?_, fun h n hn => ?_⟩
 ·simp only [Zad0, Zw4, Bool.and_eq_true, decide_eq_true_eq] at h
  exact h.2.1.2
 ·simp only [Zad0, Zw4, Bool.and_eq_true, decide_eq_true_eq, List.all_eq_true] at h
  exact (h.2.2 n hn).2
theorem Z5l : Tot (Zm1) (fun r => ((SzL 16 SzN) r) ∧ (r.length = 2)) := by
 unfold Zm1
 refine tZ ?_
 dsimp only [Zvw, LT.den]
 have q1 : (SzL 16 SzN) ([([98, 97, 115, 105, 99] : List UInt8), ([117, 110, 105, 113, 117, 101] : List UInt8)] : (List (List UInt8))) := ⟨by simp only [List.length_cons, List.length_nil]; omega, (mem_cons' (by unfold SzN; first | omega | (simp only [List.length_append, List.length_cons, List.length_nil]; omega)) (mem_cons' (by unfold SzN; first | omega | (simp only [List.length_append, List.length_cons, List.length_nil]; omega)) (fun _ h => by cases h)))⟩
 have lq1 : ([([98, 97, 115, 105, 99] : List UInt8), ([117, 110, 105, 113, 117, 101] : List UInt8)] : (List (List UInt8))).length = 2 := rfl
 exact tR ⟨q1, cl⟩
def Z24 : Znr → Prop
 | .L0 v0 v1 v5 => ((SzL 16 SzT) v0) ∧ (SzT v1) ∧ (0 ≤ v5)
def Zqs : Znr → M6
 | .L0 v0 v1 v5 => (1, ((v0.length : Int) - v5).toNat, 1000000, 0, 0, 0)
theorem Zaai (v0 : (List (List UInt8))) (v1 : (List UInt8)) (v5 : Int) (h : ((SzL 16 SzT) v0) ∧ (SzT v1) ∧ (0 ≤ v5)) : Tot (Zvy v0 v1 v5).den (Nx Z24 Zqs (1, ((v0.length : Int) - v5).toNat, 1000000, 0, 0, 0) (fun r => True)) := by
 obtain ⟨ov0, ov1, cv5⟩ := h
 have lb_v0 : v0.length * 16 ≤ 140737488351232 := ov0.1
 have lb_v1 : v1.length ≤ 562949953421312 := ov1
 dsimp only [Zvy, LT.den]
 have q1 : v0.length * 16 ≤ 140737488351232 := ov0.1
 refine tD (fun h2 => ?_) (fun h2 => ?_)
 ·refine tB (tI (by omega) (by omega)) (fun x3 h4 => ?_)
  have oh4 : SzT x3 := ov0.2 x3 h4.1
  refine tF (fun h5 => ?_) (fun h5 => ?_)
  ·exact tR trivial
  ·have q6 : -9223372036854775808 ≤ (v5 + 1) → (v5 + 1) < 9223372036854775808 → IntKind.wrap .i64 (v5 + 1) = (v5 + 1) := Zao _
   have q7 : -9223372036854775808 ≤ IntKind.wrap .i64 (v5 + 1) ∧ IntKind.wrap .i64 (v5 + 1) < 9223372036854775808 := Zap _
   exact tL ⟨ov0, ov1, cl⟩ (by unfold Zqs lt6; dsimp only; omega)
 ·exact tR trivial
theorem Z25 (a0 : (List (List UInt8))) (a1 : (List UInt8)) (oa0 : (SzL 16 SzT) a0) (oa1 : SzT a1) : Tot (Z35 a0 a1) (fun r => True) := by
 unfold Z35
 refine tX (Inv := Z24) (μ := Zqs) (m := (1000000, 0, 0, 0, 0, 0)) ?_ ?_
 ·have lb_a0 : a0.length * 16 ≤ 140737488351232 := oa0.1
  have lb_a1 : a1.length ≤ 562949953421312 := oa1
  dsimp only [Z7c, LT.den]
  exact tL ⟨oa0, oa1, cl⟩ (by unfold Zqs lt6; dsimp only; omega)
 ·intro s hs
  cases s with
  | L0 v0 v1 v5 => exact Zaai v0 v1 v5 hs
theorem Zu0 : Tot (Zoj) (fun r => ((SzL 16 SzN) r) ∧ (r.length = 6)) := by
 unfold Zoj
 refine tZ ?_
 dsimp only [Zxs, LT.den]
 have q1 : (SzL 16 SzN) ([([99, 114, 101, 97, 116, 117, 114, 101] : List UInt8), ([105, 110, 115, 116, 97, 110, 116] : List UInt8), ([114, 105, 116, 117, 97, 108] : List UInt8), ([114, 101, 108, 105, 99] : List UInt8), ([99, 104, 97, 114, 109] : List UInt8), ([108, 97, 110, 100] : List UInt8)] : (List (List UInt8))) := ⟨by simp only [List.length_cons, List.length_nil]; omega, (mem_cons' (by unfold SzN; first | omega | (simp only [List.length_append, List.length_cons, List.length_nil]; omega)) (mem_cons' (by unfold SzN; first | omega | (simp only [List.length_append, List.length_cons, List.length_nil]; omega)) (mem_cons' (by unfold SzN; first | omega | (simp only [List.length_append, List.length_cons, List.length_nil]; omega)) (mem_cons' (by unfold SzN; first | omega | (simp only [List.length_append, List.length_cons, List.length_nil]; omega)) (mem_cons' (by unfold SzN; first | omega | (simp only [List.length_append, List.length_cons, List.length_nil]; omega)) (mem_cons' (by unfold SzN; first | omega | (simp only [List.length_append, List.length_cons, List.length_nil]; omega)) (fun _ h => by cases h)))))))⟩
 have lq1 : ([([99, 114, 101, 97, 116, 117, 114, 101] : List UInt8), ([105, 110, 115, 116, 97, 110, 116] : List UInt8), ([114, 105, 116, 117, 97, 108] : List UInt8), ([114, 101, 108, 105, 99] : List UInt8), ([99, 104, 97, 114, 109] : List UInt8), ([108, 97, 110, 100] : List UInt8)] : (List (List UInt8))).length = 6 := rfl
 exact tR ⟨q1, cl⟩
theorem Zt6 (a0 : (List UInt8)) (oa0 : SzT a0) : Tot (Z37 a0) (fun r => True) := by
 unfold Z37
 refine tZ ?_
 have lb_a0 : a0.length ≤ 562949953421312 := oa0
 dsimp only [Z7e, LT.den]
 refine tB (Z2d a0 oa0) (fun x1 h2 => ?_)
 refine tF (fun h3 => ?_) (fun h3 => ?_)
 ·refine tB (Z5l) (fun x4 h5 => ?_)
  replace h5 : ((SzL 16 SzN) x4) ∧ (x4.length = 2) := h5
  have eh5_1 := h5.2
  try simp only [List.length_nil, List.length_cons, Nat.zero_add] at eh5_1
  refine tB (Z25 x4 a0 (SzL.nt h5.1) oa0) (fun x6 h7 => ?_)
  refine tD (fun h8 => ?_) (fun h8 => ?_)
  ·refine tB (Zu0) (fun x9 h10 => ?_)
   replace h10 : ((SzL 16 SzN) x9) ∧ (x9.length = 6) := h10
   have eh10_1 := h10.2
   try simp only [List.length_nil, List.length_cons, Nat.zero_add] at eh10_1
   refine tB (Z25 x9 a0 (SzL.nt h10.1) oa0) (fun x11 h12 => ?_)
   exact tR trivial
  ·exact tR trivial
 ·exact tR trivial
def Z8x : Zsi → Prop
 | .L0 v0 v1 v5 => (0 ≤ v5) ∧ (v1 ≤ 100)
def Zu9 : Zsi → M6
 | .L0 v0 v1 v5 => (1, (v1 - v5).toNat, 1000000, 0, 0, 0)
theorem Zaf2 (v0 : Int) (v1 : Int) (v5 : Int) (h : (0 ≤ v5) ∧ (v1 ≤ 100)) : Tot (Z1m v0 v1 v5).den (Nx Z8x Zu9 (1, (v1 - v5).toNat, 1000000, 0, 0, 0) (fun r => True)) := by
 obtain ⟨cv5, i0⟩ := h
 dsimp only [Z1m, LT.den]
 refine tD (fun h1 => ?_) (fun h1 => ?_)
 ·have q2 : -9223372036854775808 ≤ (v5 + 1) → (v5 + 1) < 9223372036854775808 → IntKind.wrap .i64 (v5 + 1) = (v5 + 1) := Zao _
  have q3 : -9223372036854775808 ≤ IntKind.wrap .i64 (v5 + 1) ∧ IntKind.wrap .i64 (v5 + 1) < 9223372036854775808 := Zap _
  exact tL ⟨cl, cl⟩ (by unfold Zu9 lt6; dsimp only; omega)
 ·exact tR trivial
theorem Zz6 (a0 : Int) (a1 : Int) (h0 : a1 ≤ 100) : Tot (Zafk a0 a1) (fun r => True) := by
 unfold Zafk
 refine tX (Inv := Z8x) (μ := Zu9) (m := (1000000, 0, 0, 0, 0, 0)) ?_ ?_
 ·dsimp only [Zagp, LT.den]
  exact tL ⟨cl, cl⟩ (by unfold Zu9 lt6; dsimp only; omega)
 ·intro s hs
  cases s with
  | L0 v0 v1 v5 => exact Zaf2 v0 v1 v5 hs
def Zad1 : Zv1 → Prop
 | .L0 E0 v3 => (Zod E0) ∧ (0 ≤ v3)
def Ztc : Zv1 → M6
 | .L0 E0 v3 => (1, ((E0.Subs.length : Int) - v3).toNat, 1000000, 0, 0, 0)
theorem Zahk (E0 : Zg4) (v3 : Int) (h : (Zod E0) ∧ (0 ≤ v3)) : Tot (Z38 E0 v3).den (Nx Zad1 Ztc (1, ((E0.Subs.length : Int) - v3).toNat, 1000000, 0, 0, 0) (fun r => True)) := by
 obtain ⟨ob30000000, cv3⟩ := h
 dsimp only [Z38, LT.den]
 have q1 : E0.Subs.length * 16 ≤ 140737488351232 := ob30000000.1
 refine tD (fun h2 => ?_) (fun h2 => ?_)
 ·refine tB (tI (by omega) (by omega)) (fun x3 h4 => ?_)
  have oh4 : SzT x3 := ob30000000.2 x3 h4.1
  refine tB (Zt6 x3 oh4) (fun x5 h6 => ?_)
  refine tO (fun h7 => ?_) (fun h7 => ?_)
  ·exact tR trivial
  ·refine tD (fun h8 => ?_) (fun h8 => ?_)
   ·have q9 : -9223372036854775808 ≤ (v3 - 1) → (v3 - 1) < 9223372036854775808 → IntKind.wrap .i64 (v3 - 1) = (v3 - 1) := Zao _
    have q10 : -9223372036854775808 ≤ IntKind.wrap .i64 (v3 - 1) ∧ IntKind.wrap .i64 (v3 - 1) < 9223372036854775808 := Zap _
    refine tB (tI (by omega) (by omega)) (fun x11 h12 => ?_)
    have oh12 : SzT x11 := ob30000000.2 x11 h12.1
    refine tO (fun h13 => ?_) (fun h13 => ?_)
    ·exact tR trivial
    ·have q14 : -9223372036854775808 ≤ (v3 + 1) → (v3 + 1) < 9223372036854775808 → IntKind.wrap .i64 (v3 + 1) = (v3 + 1) := Zao _
     have q15 : -9223372036854775808 ≤ IntKind.wrap .i64 (v3 + 1) ∧ IntKind.wrap .i64 (v3 + 1) < 9223372036854775808 := Zap _
     exact tL ⟨ob30000000, cl⟩ (by unfold Ztc lt6; dsimp only; omega)
   ·have q16 : -9223372036854775808 ≤ (v3 + 1) → (v3 + 1) < 9223372036854775808 → IntKind.wrap .i64 (v3 + 1) = (v3 + 1) := Zao _
    have q17 : -9223372036854775808 ≤ IntKind.wrap .i64 (v3 + 1) ∧ IntKind.wrap .i64 (v3 + 1) < 9223372036854775808 := Zap _
    exact tL ⟨ob30000000, cl⟩ (by unfold Ztc lt6; dsimp only; omega)
 ·refine tE (fun h18 => ?_) (fun h18 => ?_)
  ·exact tR trivial
  ·refine tE (fun h19 => ?_) (fun h19 => ?_)
   ·exact tR trivial
   ·refine tB (Zz6 E0.Types 1 cl) (fun x20 h21 => ?_)
    refine tO (fun h22 => ?_) (fun h22 => ?_)
    ·refine tB (Zz6 E0.Types 2 cl) (fun x23 h24 => ?_)
     exact tR trivial
    ·exact tR trivial
theorem Zapj (a0 : Zg4) (oa0 : Zod a0) : Tot (Zaj1 a0) (fun r => True) := by
 unfold Zaj1
 refine tX (Inv := Zad1) (μ := Ztc) (m := (1000000, 0, 0, 0, 0, 0)) ?_ ?_
 ·dsimp only [Zajz, LT.den]
  refine tD (fun h1 => ?_) (fun h1 => ?_)
  ·exact tR trivial
  ·refine tD (fun h2 => ?_) (fun h2 => ?_)
   ·exact tR trivial
   ·refine tD (fun h3 => ?_) (fun h3 => ?_)
    ·exact tR trivial
    ·refine tD (fun h4 => ?_) (fun h4 => ?_)
     ·exact tR trivial
     ·have q5 : a0.Subs.length * 16 ≤ 140737488351232 := oa0.1
      refine tD (fun h6 => ?_) (fun h6 => ?_)
      ·exact tR trivial
      ·exact tL ⟨oa0, cl⟩ (by unfold Ztc lt6; dsimp only; omega)
 ·intro s hs
  cases s with
  | L0 E0 v3 => exact Zahk E0 v3 hs
theorem Zad2 (a0 : Int) : Tot (Zaj4 a0) (fun r => True) := by
 unfold Zaj4
 refine tZ ?_
 dsimp only [Zaj2, LT.den]
 refine tD (fun h1 => ?_) (fun h1 => ?_)
 ·exact tR trivial
 ·exact tR trivial
theorem Zaaj (a0 : Zs) (oa0 : Zai a0) : Tot (Zv2 a0) (fun r => True) := by
 unfold Zv2
 refine tZ ?_
 dsimp only [Z0e, LT.den]
 exact tR trivial
def Z26 : Zns → Prop
 | .L0 v0 v1 v7 => (0 ≤ v7) ∧ True
def Zmj : Zns → M6
 | .L0 v0 v1 v7 => (1, (6 - v7).toNat, 1000000, 0, 0, 0)
theorem Zaak (v0 : Int) (v1 : Int) (v7 : Int) (h : (0 ≤ v7) ∧ True) : Tot (Zv3 v0 v1 v7).den (Nx Z26 Zmj (1, (6 - v7).toNat, 1000000, 0, 0, 0) (fun r => True)) := by
 obtain ⟨cv7, _⟩ := h
 dsimp only [Zv3, LT.den]
 refine tD (fun h1 => ?_) (fun h1 => ?_)
 ·refine tE (fun h2 => ?_) (fun h2 => ?_)
  ·refine tE (fun h3 => ?_) (fun h3 => ?_)
   ·exact tR trivial
   ·have q4 : -9223372036854775808 ≤ (v7 + 1) → (v7 + 1) < 9223372036854775808 → IntKind.wrap .i64 (v7 + 1) = (v7 + 1) := Zao _
    have q5 : -9223372036854775808 ≤ IntKind.wrap .i64 (v7 + 1) ∧ IntKind.wrap .i64 (v7 + 1) < 9223372036854775808 := Zap _
    exact tL ⟨cl, trivial⟩ (by unfold Zmj lt6; dsimp only; omega)
  ·have q6 : -9223372036854775808 ≤ (v7 + 1) → (v7 + 1) < 9223372036854775808 → IntKind.wrap .i64 (v7 + 1) = (v7 + 1) := Zao _
   have q7 : -9223372036854775808 ≤ IntKind.wrap .i64 (v7 + 1) ∧ IntKind.wrap .i64 (v7 + 1) < 9223372036854775808 := Zap _
   exact tL ⟨cl, trivial⟩ (by unfold Zmj lt6; dsimp only; omega)
 ·exact tR trivial
theorem Z27 (a0 : Int) (a1 : Int) (a2 : Int) : Tot (Z39 a0 a1 a2) (fun r => True) := by
 unfold Z39
 refine tX (Inv := Z26) (μ := Zmj) (m := (1000000, 0, 0, 0, 0, 0)) ?_ ?_
 ·dsimp only [Z7g, LT.den]
  refine tD (fun h1 => ?_) (fun h1 => ?_)
  ·exact tR trivial
  ·refine tD (fun h2 => ?_) (fun h2 => ?_)
   ·exact tR trivial
   ·refine tD (fun h3 => ?_) (fun h3 => ?_)
    ·exact tR trivial
    ·refine tD (fun h4 => ?_) (fun h4 => ?_)
     ·exact tR trivial
     ·exact tL ⟨cl, trivial⟩ (by unfold Zmj lt6; dsimp only; omega)
 ·intro s hs
  cases s with
  | L0 v0 v1 v7 => exact Zaak v0 v1 v7 hs
theorem Zt7 (a0 : Zc) : Tot (Z4b a0) (fun r => (r = true → 0 ≤ a0.Kind ∧ a0.Kind ≤ 3)) := by
 unfold Z4b
 refine tZ ?_
 dsimp only [Z7i, LT.den]
 refine tD (fun h1 => ?_) (fun h1 => ?_)
 ·exact tR (by intro hr; cases hr)
 ·refine tD (fun h2 => ?_) (fun h2 => ?_)
  ·exact tR (by intro hr; cases hr)
  ·refine tD (fun h3 => ?_) (fun h3 => ?_)
   ·exact tR (by intro hr; cases hr)
   ·refine tD (fun h4 => ?_) (fun h4 => ?_)
    ·exact tR (by intro hr; cases hr)
    ·refine tN (fun h5 => ?_) (fun h5 => ?_)
     ·exact tR (by intro hr; first | omega | (cases hr; done))
     ·exact tR (by intro hr; first | omega | (cases hr; done))
def Zad3 (a0 : Zi) : Zv5 → Prop
 | .L0 E0 => (E0 = a0) ∧ (Za8 E0) ∧ (0 ≤ E0.Zone ∧ E0.Zone ≤ 5 ∧ 0 ≤ E0.Who ∧ E0.Who ≤ 2 ∧ 0 ≤ E0.Self ∧ E0.Self ≤ 2 ∧ 0 ≤ E0.Tap ∧ E0.Tap ≤ 2)
def Zag1 : Zv5 → M6
 | .L0 E0 => (0, 0, 0, 0, 0, 0)
theorem Zt8 (a0 : Zi) (E0 : Zi) (h : (E0 = a0) ∧ (Za8 E0) ∧ (0 ≤ E0.Zone ∧ E0.Zone ≤ 5 ∧ 0 ≤ E0.Who ∧ E0.Who ≤ 2 ∧ 0 ≤ E0.Self ∧ E0.Self ≤ 2 ∧ 0 ≤ E0.Tap ∧ E0.Tap ≤ 2)) : Tot (Zsj E0).den (Nx (Zad3 a0) Zag1 (0, 0, 0, 0, 0, 0) (fun r => (r = true → 0 ≤ a0.Zone ∧ a0.Zone ≤ 5 ∧ 0 ≤ a0.Who ∧ a0.Who ≤ 2 ∧ 0 ≤ a0.Self ∧ a0.Self ≤ 2 ∧ 0 ≤ a0.Tap ∧ a0.Tap ≤ 2 ∧ 0 ≤ a0.Power.Kind ∧ a0.Power.Kind ≤ 3 ∧ 0 ≤ a0.Tough.Kind ∧ a0.Tough.Kind ≤ 3 ∧ 0 ≤ a0.Value.Kind ∧ a0.Value.Kind ≤ 3))) := by
 obtain ⟨al0, ob30000000, i0⟩ := h
 subst al0
 dsimp only [Zsj, LT.den]
 refine tB (Zt7 E0.Power) (fun x1 h2 => ?_)
 replace h2 : (x1 = true → 0 ≤ E0.Power.Kind ∧ E0.Power.Kind ≤ 3) := h2
 have eh2_0 := h2
 refine tF (fun h3 => ?_) (fun h3 => ?_)
 ·have h3_0 := eh2_0 h3
  refine tB (Zt7 E0.Tough) (fun x4 h5 => ?_)
  replace h5 : (x4 = true → 0 ≤ E0.Tough.Kind ∧ E0.Tough.Kind ≤ 3) := h5
  have eh5_0 := h5
  refine tF (fun h6 => ?_) (fun h6 => ?_)
  ·have h6_0 := eh5_0 h6
   refine tB (Zt7 E0.Value) (fun x7 h8 => ?_)
   replace h8 : (x7 = true → 0 ≤ E0.Value.Kind ∧ E0.Value.Kind ≤ 3) := h8
   have eh8_0 := h8
   exact tR (by intro hr; have := eh8_0 hr; first | omega | (cases hr; done))
  ·exact tR (by intro hr; cases hr)
 ·exact tR (by intro hr; cases hr)
theorem Zgq (a0 : Zi) (oa0 : Za8 a0) : Tot (Zaj7 a0) (fun r => (r = true → 0 ≤ a0.Zone ∧ a0.Zone ≤ 5 ∧ 0 ≤ a0.Who ∧ a0.Who ≤ 2 ∧ 0 ≤ a0.Self ∧ a0.Self ≤ 2 ∧ 0 ≤ a0.Tap ∧ a0.Tap ≤ 2 ∧ 0 ≤ a0.Power.Kind ∧ a0.Power.Kind ≤ 3 ∧ 0 ≤ a0.Tough.Kind ∧ a0.Tough.Kind ≤ 3 ∧ 0 ≤ a0.Value.Kind ∧ a0.Value.Kind ≤ 3)) := by
 unfold Zaj7
 refine tX (Inv := (Zad3 a0)) (μ := Zag1) (m := (1000000, 0, 0, 0, 0, 0)) ?_ ?_
 ·dsimp only [Zaj5, LT.den]
  refine tD (fun h1 => ?_) (fun h1 => ?_)
  ·exact tR (by intro hr; cases hr)
  ·refine tD (fun h2 => ?_) (fun h2 => ?_)
   ·exact tR (by intro hr; cases hr)
   ·refine tD (fun h3 => ?_) (fun h3 => ?_)
    ·exact tR (by intro hr; cases hr)
    ·refine tD (fun h4 => ?_) (fun h4 => ?_)
     ·exact tR (by intro hr; cases hr)
     ·refine tD (fun h5 => ?_) (fun h5 => ?_)
      ·exact tR (by intro hr; cases hr)
      ·refine tD (fun h6 => ?_) (fun h6 => ?_)
       ·exact tR (by intro hr; cases hr)
       ·refine tD (fun h7 => ?_) (fun h7 => ?_)
        ·exact tR (by intro hr; cases hr)
        ·refine tD (fun h8 => ?_) (fun h8 => ?_)
         ·exact tR (by intro hr; cases hr)
         ·refine tB (Z27 a0.Types a0.NotTypes 63) (fun x9 h10 => ?_)
          refine tO (fun h11 => ?_) (fun h11 => ?_)
          ·exact tR (by intro hr; cases hr)
          ·refine tB (Z27 a0.Colors a0.NotColors 31) (fun x12 h13 => ?_)
           refine tO (fun h14 => ?_) (fun h14 => ?_)
           ·exact tR (by intro hr; cases hr)
           ·refine tO (fun h15 => ?_) (fun h15 => ?_)
            ·refine tB (Zt6 a0.Sub (SzS.t oa0)) (fun x16 h17 => ?_)
             refine tO (fun h18 => ?_) (fun h18 => ?_)
             ·exact tR (by intro hr; cases hr)
             ·refine tD (fun h19 => ?_) (fun h19 => ?_)
              ·exact tR (by intro hr; cases hr)
              ·refine tD (fun h20 => ?_) (fun h20 => ?_)
               ·exact tR (by intro hr; cases hr)
               ·exact tJ (Zt8 a0 a0 ⟨rfl, oa0, cl⟩)
            ·refine tD (fun h21 => ?_) (fun h21 => ?_)
             ·exact tR (by intro hr; cases hr)
             ·refine tD (fun h22 => ?_) (fun h22 => ?_)
              ·exact tR (by intro hr; cases hr)
              ·exact tJ (Zt8 a0 a0 ⟨rfl, oa0, cl⟩)
 ·intro s hs
  cases s with
  | L0 E0 => exact Zt8 a0 E0 hs
def Zw5 : Zm2 → Prop
 | .L0 E0 E1 v7 v8 => (Za1 E0) ∧ (Za1 E1)
 | .L1 E0 E1 v7 v16 => (Za1 E0) ∧ (Za1 E1)
def Zz7 : Zm2 → M6
 | .L0 E0 E1 v7 v8 => (0, 0, 0, 0, 0, 0)
 | .L1 E0 E1 v7 v16 => (0, 0, 0, 0, 0, 0)
theorem Zqt (E0 : Zj) (E1 : Zj) (v7 : Int) (v16 : Bool) (h : (Za1 E0) ∧ (Za1 E1)) : Tot (Znt E0 E1 v7 v16).den (Nx Zw5 Zz7 (0, 0, 0, 0, 0, 0) (fun r => (Za1 r))) := by
 obtain ⟨ob30000000, ob30000001⟩ := h
 dsimp only [Znt, LT.den]
 refine tF (fun h1 => ?_) (fun h1 => ?_)
 ·exact tR ⟨(SzS.nil), ob30000000.2⟩
 ·refine tE (fun h2 => ?_) (fun h2 => ?_)
  ·exact tR ⟨ob30000000.1, (SzS.nil)⟩
  ·refine tE (fun h3 => ?_) (fun h3 => ?_)
   ·exact tR ⟨ob30000000.1, ob30000000.2⟩
   ·refine tE (fun h4 => ?_) (fun h4 => ?_)
    ·exact tR ⟨ob30000000.1, ob30000000.2⟩
    ·exact tR ob30000000
theorem Zgr (E0 : Zj) (E1 : Zj) (v7 : Int) (v8 : Bool) (h : (Za1 E0) ∧ (Za1 E1)) : Tot (Zhe E0 E1 v7 v8).den (Nx Zw5 Zz7 (0, 0, 0, 0, 0, 0) (fun r => (Za1 r))) := by
 obtain ⟨ob30000000, ob30000001⟩ := h
 dsimp only [Zhe, LT.den]
 refine tF (fun h1 => ?_) (fun h1 => ?_)
 ·exact tR ⟨ob30000000.1, ob30000000.2⟩
 ·refine tE (fun h2 => ?_) (fun h2 => ?_)
  ·exact tJ (Zqt E0 E1 v7 (v7 == 4) ⟨ob30000000, ob30000001⟩)
  ·exact tJ (Zqt E0 E1 v7 (v7 == 5) ⟨ob30000000, ob30000001⟩)
theorem Zal6 (a0 : Zj) (oa0 : Za1 a0) : Tot (Z9c a0) (fun r => (Za1 r)) := by
 unfold Z9c
 refine tX (Inv := Zw5) (μ := Zz7) (m := (1000000, 0, 0, 0, 0, 0)) ?_ ?_
 ·dsimp only [Zaby, LT.den]
  refine tE (fun h1 => ?_) (fun h1 => ?_)
  ·exact tJ (Zgr (⟨0, a0.N, a0.M, a0.Sub, a0.Filter⟩ : Zj) (⟨0, 0, 0, ([] : List UInt8), (⟨0, 0, 0, 0, 0, 0, 0, ([] : List UInt8), 0, 0, (⟨0, 0⟩ : Zc), (⟨0, 0⟩ : Zc), (⟨0, 0⟩ : Zc)⟩ : Zi)⟩ : Zj) a0.Kind (a0.Kind == 2) ⟨⟨oa0.1, oa0.2⟩, ⟨(SzS.nil), (SzS.nil)⟩⟩)
  ·refine tE (fun h2 => ?_) (fun h2 => ?_)
   ·exact tJ (Zgr (⟨0, a0.N, a0.M, a0.Sub, a0.Filter⟩ : Zj) (⟨0, 0, 0, ([] : List UInt8), (⟨0, 0, 0, 0, 0, 0, 0, ([] : List UInt8), 0, 0, (⟨0, 0⟩ : Zc), (⟨0, 0⟩ : Zc), (⟨0, 0⟩ : Zc)⟩ : Zi)⟩ : Zj) a0.Kind (a0.Kind == 3) ⟨⟨oa0.1, oa0.2⟩, ⟨(SzS.nil), (SzS.nil)⟩⟩)
   ·refine tE (fun h3 => ?_) (fun h3 => ?_)
    ·exact tJ (Zgr (⟨0, a0.N, a0.M, a0.Sub, a0.Filter⟩ : Zj) (⟨0, 0, 0, ([] : List UInt8), (⟨0, 0, 0, 0, 0, 0, 0, ([] : List UInt8), 0, 0, (⟨0, 0⟩ : Zc), (⟨0, 0⟩ : Zc), (⟨0, 0⟩ : Zc)⟩ : Zi)⟩ : Zj) a0.Kind (a0.Kind == 6) ⟨⟨oa0.1, oa0.2⟩, ⟨(SzS.nil), (SzS.nil)⟩⟩)
    ·refine tE (fun h4 => ?_) (fun h4 => ?_)
     ·exact tJ (Zgr (⟨0, a0.N, a0.M, a0.Sub, a0.Filter⟩ : Zj) (⟨0, 0, 0, ([] : List UInt8), (⟨0, 0, 0, 0, 0, 0, 0, ([] : List UInt8), 0, 0, (⟨0, 0⟩ : Zc), (⟨0, 0⟩ : Zc), (⟨0, 0⟩ : Zc)⟩ : Zi)⟩ : Zj) a0.Kind (a0.Kind == 7) ⟨⟨oa0.1, oa0.2⟩, ⟨(SzS.nil), (SzS.nil)⟩⟩)
     ·refine tE (fun h5 => ?_) (fun h5 => ?_)
      ·exact tJ (Zgr (⟨0, a0.N, a0.M, a0.Sub, a0.Filter⟩ : Zj) (⟨0, 0, 0, ([] : List UInt8), (⟨0, 0, 0, 0, 0, 0, 0, ([] : List UInt8), 0, 0, (⟨0, 0⟩ : Zc), (⟨0, 0⟩ : Zc), (⟨0, 0⟩ : Zc)⟩ : Zi)⟩ : Zj) a0.Kind (a0.Kind == 8) ⟨⟨oa0.1, oa0.2⟩, ⟨(SzS.nil), (SzS.nil)⟩⟩)
      ·exact tJ (Zgr (⟨0, a0.N, a0.M, a0.Sub, a0.Filter⟩ : Zj) (⟨0, 0, 0, ([] : List UInt8), (⟨0, 0, 0, 0, 0, 0, 0, ([] : List UInt8), 0, 0, (⟨0, 0⟩ : Zc), (⟨0, 0⟩ : Zc), (⟨0, 0⟩ : Zc)⟩ : Zi)⟩ : Zj) a0.Kind (a0.Kind == 9) ⟨⟨oa0.1, oa0.2⟩, ⟨(SzS.nil), (SzS.nil)⟩⟩)
 ·intro s hs
  cases s with
  | L0 E0 E1 v7 v8 => exact Zgr E0 E1 v7 v8 hs
  | L1 E0 E1 v7 v16 => exact Zqt E0 E1 v7 v16 hs
theorem Zahl (a0 : Int) : Tot (Z4c a0) (fun r => True) := by
 unfold Z4c
 refine tZ ?_
 dsimp only [Z7k, LT.den]
 refine tD (fun h1 => ?_) (fun h1 => ?_)
 ·refine tD (fun h2 => ?_) (fun h2 => ?_)
  ·exact tR trivial
  ·exact tR trivial
 ·exact tR trivial
def Zva : Zo2 → Prop
 | .L0 E0 v18 v19 => (Za1 E0) ∧ True
 | .L1 E0 v18 v25 => (Za1 E0) ∧ True
 | .L2 E0 v18 v51 => (Za1 E0) ∧ True
def Zym : Zo2 → M6
 | .L0 E0 v18 v19 => (0, 0, 0, 0, 0, 0)
 | .L1 E0 v18 v25 => (0, 0, 0, 0, 0, 0)
 | .L2 E0 v18 v51 => (0, 0, 0, 0, 0, 0)
theorem Zt9 (E0 : Zj) (v18 : Int) (v51 : Bool) (h : (Za1 E0) ∧ True) : Tot (Zsk E0 v18 v51).den (Nx Zva Zym (0, 0, 0, 0, 0, 0) (fun r => True)) := by
 obtain ⟨ob30000000, _⟩ := h
 dsimp only [Zsk, LT.den]
 refine tF (fun h1 => ?_) (fun h1 => ?_)
 ·refine tD (fun h2 => ?_) (fun h2 => ?_)
  ·exact tR trivial
  ·exact tR trivial
 ·refine tE (fun h3 => ?_) (fun h3 => ?_)
  ·refine tB (Zgq E0.Filter ob30000000.2) (fun x4 h5 => ?_)
   replace h5 : (x4 = true → 0 ≤ E0.Filter.Zone ∧ E0.Filter.Zone ≤ 5 ∧ 0 ≤ E0.Filter.Who ∧ E0.Filter.Who ≤ 2 ∧ 0 ≤ E0.Filter.Self ∧ E0.Filter.Self ≤ 2 ∧ 0 ≤ E0.Filter.Tap ∧ E0.Filter.Tap ≤ 2 ∧ 0 ≤ E0.Filter.Power.Kind ∧ E0.Filter.Power.Kind ≤ 3 ∧ 0 ≤ E0.Filter.Tough.Kind ∧ E0.Filter.Tough.Kind ≤ 3 ∧ 0 ≤ E0.Filter.Value.Kind ∧ E0.Filter.Value.Kind ≤ 3) := h5
   have eh5_0 := h5
   exact tR trivial
  ·refine tE (fun h6 => ?_) (fun h6 => ?_)
   ·refine tD (fun h7 => ?_) (fun h7 => ?_)
    ·refine tD (fun h8 => ?_) (fun h8 => ?_)
     ·refine tD (fun h9 => ?_) (fun h9 => ?_)
      ·exact tR trivial
      ·exact tR trivial
     ·exact tR trivial
    ·exact tR trivial
   ·refine tE (fun h10 => ?_) (fun h10 => ?_)
    ·refine tD (fun h11 => ?_) (fun h11 => ?_)
     ·refine tD (fun h12 => ?_) (fun h12 => ?_)
      ·refine tD (fun h13 => ?_) (fun h13 => ?_)
       ·exact tR trivial
       ·exact tR trivial
      ·exact tR trivial
     ·exact tR trivial
    ·exact tR trivial
theorem Zua (E0 : Zj) (v18 : Int) (v25 : Bool) (h : (Za1 E0) ∧ True) : Tot (Zsl E0 v18 v25).den (Nx Zva Zym (0, 0, 0, 0, 0, 0) (fun r => True)) := by
 obtain ⟨ob30000000, _⟩ := h
 dsimp only [Zsl, LT.den]
 refine tF (fun h1 => ?_) (fun h1 => ?_)
 ·refine tB (Zt6 E0.Sub (SzS.t ob30000000.1)) (fun x2 h3 => ?_)
  exact tR trivial
 ·refine tE (fun h4 => ?_) (fun h4 => ?_)
  ·refine tD (fun h5 => ?_) (fun h5 => ?_)
   ·exact tR trivial
   ·exact tR trivial
  ·refine tE (fun h6 => ?_) (fun h6 => ?_)
   ·refine tD (fun h7 => ?_) (fun h7 => ?_)
    ·exact tR trivial
    ·exact tR trivial
   ·refine tE (fun h8 => ?_) (fun h8 => ?_)
    ·exact tJ (Zt9 E0 v18 (v18 == 8) ⟨ob30000000, trivial⟩)
    ·exact tJ (Zt9 E0 v18 (v18 == 9) ⟨ob30000000, trivial⟩)
theorem Zub (E0 : Zj) (v18 : Int) (v19 : Bool) (h : (Za1 E0) ∧ True) : Tot (Zsm E0 v18 v19).den (Nx Zva Zym (0, 0, 0, 0, 0, 0) (fun r => True)) := by
 obtain ⟨ob30000000, _⟩ := h
 dsimp only [Zsm, LT.den]
 refine tF (fun h1 => ?_) (fun h1 => ?_)
 ·refine tB (Zahl E0.N) (fun x2 h3 => ?_)
  exact tR trivial
 ·refine tE (fun h4 => ?_) (fun h4 => ?_)
  ·exact tJ (Zua E0 v18 (v18 == 4) ⟨ob30000000, trivial⟩)
  ·exact tJ (Zua E0 v18 (v18 == 5) ⟨ob30000000, trivial⟩)
theorem Zad4 (a0 : Zj) (oa0 : Za1 a0) : Tot (Zakb a0) (fun r => True) := by
 unfold Zakb
 refine tX (Inv := Zva) (μ := Zym) (m := (1000000, 0, 0, 0, 0, 0)) ?_ ?_
 ·dsimp only [Zaj9, LT.den]
  refine tD (fun h1 => ?_) (fun h1 => ?_)
  ·exact tR trivial
  ·refine tD (fun h2 => ?_) (fun h2 => ?_)
   ·exact tR trivial
   ·refine tB (Zal6 a0 oa0) (fun x3 h4 => ?_)
    replace h4 : (Za1 x3) := h4
    refine tO (fun h5 => ?_) (fun h5 => ?_)
    ·exact tR trivial
    ·refine tE (fun h6 => ?_) (fun h6 => ?_)
     ·exact tJ (Zub a0 a0.Kind (a0.Kind == 2) ⟨oa0, trivial⟩)
     ·exact tJ (Zub a0 a0.Kind (a0.Kind == 3) ⟨oa0, trivial⟩)
 ·intro s hs
  cases s with
  | L0 E0 v18 v19 => exact Zub E0 v18 v19 hs
  | L1 E0 v18 v25 => exact Zua E0 v18 v25 hs
  | L2 E0 v18 v51 => exact Zt9 E0 v18 v51 hs
def Z04 : Zlv → Prop
 | .L0 v0 v1 v2 v7 v8 => ((SzL 16 SzN) v0) ∧ (SzN v2) ∧ (0 ≤ v8) ∧ (v7.length ≤ 200 * v8.toNat) ∧ (v0.length ≤ 100) ∧ (v8 ≤ v0.length)
def Zip : Zlv → M6
 | .L0 v0 v1 v2 v7 v8 => (1, ((v0.length : Int) - v8).toNat, 1000000, 0, 0, 0)
theorem Z6z (v0 : (List (List UInt8))) (v1 : Int) (v2 : (List UInt8)) (v7 : (List UInt8)) (v8 : Int) (h : ((SzL 16 SzN) v0) ∧ (SzN v2) ∧ (0 ≤ v8) ∧ (v7.length ≤ 200 * v8.toNat) ∧ (v0.length ≤ 100) ∧ (v8 ≤ v0.length)) : Tot (Zti v0 v1 v2 v7 v8).den (Nx Z04 Zip (1, ((v0.length : Int) - v8).toNat, 1000000, 0, 0, 0) (fun r => (SzT r) ∧ (r.length ≤ 20000))) := by
 obtain ⟨ov0, ov2, cv8, i0, i1, i2⟩ := h
 have lb_v0 : v0.length * 16 ≤ 140737488351232 := ov0.1
 have lb_v2 : v2.length ≤ 100 := ov2
 dsimp only [Zti, LT.den]
 have q1 : v0.length * 16 ≤ 140737488351232 := (SzL.nt ov0).1
 refine tD (fun h2 => ?_) (fun h2 => ?_)
 ·refine tB (Zz6 v1 v8 cl) (fun x3 h4 => ?_)
  refine tF (fun h5 => ?_) (fun h5 => ?_)
  ·refine tO (fun h6 => ?_) (fun h6 => ?_)
   ·have q7 : v2.length ≤ 100 := ov2
    refine tB (tK (by first | (simp only [List.length_append, List.length_cons, List.length_nil]; omega) | omega)) (fun x8 h9 => ?_)
    refine tB (tI (by omega) (by omega)) (fun x10 h11 => ?_)
    have oh11 : SzN x10 := ov0.2 x10 h11.1
    have q12 : x10.length ≤ 100 := oh11
    refine tB (tK (by first | (simp only [List.length_append, List.length_cons, List.length_nil]; omega) | omega)) (fun x13 h14 => ?_)
    have q15 : -9223372036854775808 ≤ (v8 + 1) → (v8 + 1) < 9223372036854775808 → IntKind.wrap .i64 (v8 + 1) = (v8 + 1) := Zao _
    have q16 : -9223372036854775808 ≤ IntKind.wrap .i64 (v8 + 1) ∧ IntKind.wrap .i64 (v8 + 1) < 9223372036854775808 := Zap _
    exact tL ⟨ov0, ov2, cl, cl, cl, cl⟩ (by unfold Zip lt6; dsimp only; omega)
   ·refine tB (tI (by omega) (by omega)) (fun x17 h18 => ?_)
    have oh18 : SzN x17 := ov0.2 x17 h18.1
    have q19 : x17.length ≤ 100 := oh18
    refine tB (tK (by first | (simp only [List.length_append, List.length_cons, List.length_nil]; omega) | omega)) (fun x20 h21 => ?_)
    have q22 : -9223372036854775808 ≤ (v8 + 1) → (v8 + 1) < 9223372036854775808 → IntKind.wrap .i64 (v8 + 1) = (v8 + 1) := Zao _
    have q23 : -9223372036854775808 ≤ IntKind.wrap .i64 (v8 + 1) ∧ IntKind.wrap .i64 (v8 + 1) < 9223372036854775808 := Zap _
    exact tL ⟨ov0, ov2, cl, cl, cl, cl⟩ (by unfold Zip lt6; dsimp only; omega)
  ·have q24 : -9223372036854775808 ≤ (v8 + 1) → (v8 + 1) < 9223372036854775808 → IntKind.wrap .i64 (v8 + 1) = (v8 + 1) := Zao _
   have q25 : -9223372036854775808 ≤ IntKind.wrap .i64 (v8 + 1) ∧ IntKind.wrap .i64 (v8 + 1) < 9223372036854775808 := Zap _
   exact tL ⟨ov0, ov2, cl, cl, cl, cl⟩ (by unfold Zip lt6; dsimp only; omega)
 ·exact tR ⟨(by unfold SzT; first | omega | (simp only [List.length_append, List.length_cons, List.length_nil]; omega)), cl⟩
theorem Zaf3 (a0 : (List (List UInt8))) (a1 : Int) (a2 : (List UInt8)) (oa0 : (SzL 16 SzN) a0) (oa2 : SzN a2) (h0 : a0.length ≤ 100) : Tot (Z1o a0 a1 a2) (fun r => (SzT r) ∧ (r.length ≤ 20000)) := by
 unfold Z1o
 refine tX (Inv := Z04) (μ := Zip) (m := (1000000, 0, 0, 0, 0, 0)) ?_ ?_
 ·have lb_a0 : a0.length * 16 ≤ 140737488351232 := oa0.1
  have lb_a2 : a2.length ≤ 100 := oa2
  dsimp only [Z4d, LT.den]
  exact tL ⟨oa0, oa2, cl, cl, cl, cl⟩ (by unfold Zip lt6; dsimp only; omega)
 ·intro s hs
  cases s with
  | L0 v0 v1 v2 v7 v8 => exact Z6z v0 v1 v2 v7 v8 hs
theorem Znl (a0 : Int) : Tot (Ztj a0) (fun r => (SzT r) ∧ (r.length ≤ 20000)) := by
 unfold Ztj
 refine tZ ?_
 dsimp only [Zxu, LT.den]
 refine tD (fun h1 => ?_) (fun h1 => ?_)
 ·exact tR ⟨(SzT.nil), cl⟩
 ·refine tD (fun h2 => ?_) (fun h2 => ?_)
  ·exact tR ⟨(SzT.nil), cl⟩
  ·refine tB (Zu0) (fun x3 h4 => ?_)
   replace h4 : ((SzL 16 SzN) x3) ∧ (x3.length = 6) := h4
   have eh4_1 := h4.2
   try simp only [List.length_nil, List.length_cons, Nat.zero_add] at eh4_1
   refine tB (Zaf3 x3 a0 ([43] : List UInt8) h4.1 (by unfold SzN; first | omega | (simp only [List.length_append, List.length_cons, List.length_nil]; omega)) cl) (fun x5 h6 => ?_)
   replace h6 : (SzT x5) ∧ (x5.length ≤ 20000) := h6
   have eh6_1 := h6.2
   try simp only [List.length_nil, List.length_cons, Nat.zero_add] at eh6_1
   exact tR ⟨h6.1, cl⟩
theorem Zapk (a0 : Int) : Tot (Zake a0) (fun r => True) := by
 unfold Zake
 refine tZ ?_
 dsimp only [Zakc, LT.den]
 refine tD (fun h1 => ?_) (fun h1 => ?_)
 ·exact tR trivial
 ·exact tR trivial
theorem Zqu (a0 : Int) : Tot (Z9d a0) (fun r => (SzN r)) := by
 unfold Z9d
 refine tZ ?_
 dsimp only [Zab0, LT.den]
 refine tE (fun h1 => ?_) (fun h1 => ?_)
 ·exact tR (by unfold SzN; first | omega | (simp only [List.length_append, List.length_cons, List.length_nil]; omega))
 ·refine tE (fun h2 => ?_) (fun h2 => ?_)
  ·exact tR (by unfold SzN; first | omega | (simp only [List.length_append, List.length_cons, List.length_nil]; omega))
  ·refine tE (fun h3 => ?_) (fun h3 => ?_)
   ·exact tR (by unfold SzN; first | omega | (simp only [List.length_append, List.length_cons, List.length_nil]; omega))
   ·refine tE (fun h4 => ?_) (fun h4 => ?_)
    ·exact tR (by unfold SzN; first | omega | (simp only [List.length_append, List.length_cons, List.length_nil]; omega))
    ·refine tE (fun h5 => ?_) (fun h5 => ?_)
     ·exact tR (by unfold SzN; first | omega | (simp only [List.length_append, List.length_cons, List.length_nil]; omega))
     ·exact tR (SzN.nil)
def Z5m : Zpz → Prop
 | .L0 v0 v3 v4 => (0 ≤ v4) ∧ (v3.length ≤ 200 * v4.toNat) ∧ (v4 ≤ 5)
def Zk1 : Zpz → M6
 | .L0 v0 v3 v4 => (1, (5 - v4).toNat, 1000000, 0, 0, 0)
theorem Zad5 (v0 : Int) (v3 : (List UInt8)) (v4 : Int) (h : (0 ≤ v4) ∧ (v3.length ≤ 200 * v4.toNat) ∧ (v4 ≤ 5)) : Tot (Zy5 v0 v3 v4).den (Nx Z5m Zk1 (1, (5 - v4).toNat, 1000000, 0, 0, 0) (fun r => (SzT r))) := by
 obtain ⟨cv4, i0, i1⟩ := h
 dsimp only [Zy5, LT.den]
 refine tD (fun h1 => ?_) (fun h1 => ?_)
 ·refine tB (tK (by first | omega | exact shl_ne' (by omega) (by omega) | decide)) (fun x2 h3 => ?_)
  refine tB (tK (by first | omega | exact shl_ne' (by omega) (by omega) | decide)) (fun x4 h5 => ?_)
  refine tE (fun h6 => ?_) (fun h6 => ?_)
  ·refine tO (fun h7 => ?_) (fun h7 => ?_)
   ·refine tB (tK (by first | (simp only [List.length_append, List.length_cons, List.length_nil]; omega) | omega)) (fun x8 h9 => ?_)
    refine tB (Zqu v4) (fun x10 h11 => ?_)
    replace h11 : (SzN x10) := h11
    have q12 : x10.length ≤ 100 := h11
    refine tB (tK (by first | (simp only [List.length_append, List.length_cons, List.length_nil]; omega) | omega)) (fun x13 h14 => ?_)
    have q15 : -9223372036854775808 ≤ (v4 + 1) → (v4 + 1) < 9223372036854775808 → IntKind.wrap .i64 (v4 + 1) = (v4 + 1) := Zao _
    have q16 : -9223372036854775808 ≤ IntKind.wrap .i64 (v4 + 1) ∧ IntKind.wrap .i64 (v4 + 1) < 9223372036854775808 := Zap _
    exact tL ⟨cl, cl, cl⟩ (by unfold Zk1 lt6; dsimp only; omega)
   ·refine tB (Zqu v4) (fun x17 h18 => ?_)
    replace h18 : (SzN x17) := h18
    have q19 : x17.length ≤ 100 := h18
    refine tB (tK (by first | (simp only [List.length_append, List.length_cons, List.length_nil]; omega) | omega)) (fun x20 h21 => ?_)
    have q22 : -9223372036854775808 ≤ (v4 + 1) → (v4 + 1) < 9223372036854775808 → IntKind.wrap .i64 (v4 + 1) = (v4 + 1) := Zao _
    have q23 : -9223372036854775808 ≤ IntKind.wrap .i64 (v4 + 1) ∧ IntKind.wrap .i64 (v4 + 1) < 9223372036854775808 := Zap _
    exact tL ⟨cl, cl, cl⟩ (by unfold Zk1 lt6; dsimp only; omega)
  ·have q24 : -9223372036854775808 ≤ (v4 + 1) → (v4 + 1) < 9223372036854775808 → IntKind.wrap .i64 (v4 + 1) = (v4 + 1) := Zao _
   have q25 : -9223372036854775808 ≤ IntKind.wrap .i64 (v4 + 1) ∧ IntKind.wrap .i64 (v4 + 1) < 9223372036854775808 := Zap _
   exact tL ⟨cl, cl, cl⟩ (by unfold Zk1 lt6; dsimp only; omega)
 ·exact tR (by unfold SzT; first | omega | (simp only [List.length_append, List.length_cons, List.length_nil]; omega))
theorem Z5n (a0 : Int) : Tot (Z9e a0) (fun r => (SzT r)) := by
 unfold Z9e
 refine tX (Inv := Z5m) (μ := Zk1) (m := (1000000, 0, 0, 0, 0, 0)) ?_ ?_
 ·dsimp only [Zab2, LT.den]
  refine tB (Zapk a0) (fun x1 h2 => ?_)
  refine tO (fun h3 => ?_) (fun h3 => ?_)
  ·exact tR (SzT.nil)
  ·refine tE (fun h4 => ?_) (fun h4 => ?_)
   ·exact tR (by unfold SzT; first | omega | (simp only [List.length_append, List.length_cons, List.length_nil]; omega))
   ·exact tL ⟨cl, cl, cl⟩ (by unfold Zk1 lt6; dsimp only; omega)
 ·intro s hs
  cases s with
  | L0 v0 v3 v4 => exact Zad5 v0 v3 v4 hs
theorem Zahm : Tot (Zxw) (fun r => ((SzL 16 SzN) r) ∧ (r.length = 17)) := by
 unfold Zxw
 refine tZ ?_
 dsimp only [Z7n, LT.den]
 have q1 : (SzL 16 SzN) ([([102, 108, 121, 105, 110, 103] : List UInt8), ([114, 101, 97, 99, 104] : List UInt8), ([104, 97, 115, 116, 101] : List UInt8), ([118, 105, 103, 105, 108, 97, 110, 116] : List UInt8), ([116, 114, 97, 109, 112, 108, 101] : List UInt8), ([102, 105, 114, 115, 116, 45, 115, 116, 114, 105, 107, 101] : List UInt8), ([100, 111, 117, 98, 108, 101, 45, 115, 116, 114, 105, 107, 101] : List UInt8), ([100, 101, 97, 100, 108, 121] : List UInt8), ([108, 105, 102, 101, 108, 105, 110, 107] : List UInt8), ([109, 101, 110, 97, 99, 101] : List UInt8), ([100, 101, 102, 101, 110, 100, 101, 114] : List UInt8), ([119, 97, 114, 100, 101, 100] : List UInt8), ([115, 116, 117, 114, 100, 121] : List UInt8), ([101, 108, 117, 115, 105, 118, 101] : List UInt8), ([110, 111, 45, 97, 116, 116, 97, 99, 107] : List UInt8), ([110, 111, 45, 98, 108, 111, 99, 107] : List UInt8), ([109, 117, 115, 116, 45, 97, 116, 116, 97, 99, 107] : List UInt8)] : (List (List UInt8))) := ⟨by simp only [List.length_cons, List.length_nil]; omega, (mem_cons' (by unfold SzN; first | omega | (simp only [List.length_append, List.length_cons, List.length_nil]; omega)) (mem_cons' (by unfold SzN; first | omega | (simp only [List.length_append, List.length_cons, List.length_nil]; omega)) (mem_cons' (by unfold SzN; first | omega | (simp only [List.length_append, List.length_cons, List.length_nil]; omega)) (mem_cons' (by unfold SzN; first | omega | (simp only [List.length_append, List.length_cons, List.length_nil]; omega)) (mem_cons' (by unfold SzN; first | omega | (simp only [List.length_append, List.length_cons, List.length_nil]; omega)) (mem_cons' (by unfold SzN; first | omega | (simp only [List.length_append, List.length_cons, List.length_nil]; omega)) (mem_cons' (by unfold SzN; first | omega | (simp only [List.length_append, List.length_cons, List.length_nil]; omega)) (mem_cons' (by unfold SzN; first | omega | (simp only [List.length_append, List.length_cons, List.length_nil]; omega)) (mem_cons' (by unfold SzN; first | omega | (simp only [List.length_append, List.length_cons, List.length_nil]; omega)) (mem_cons' (by unfold SzN; first | omega | (simp only [List.length_append, List.length_cons, List.length_nil]; omega)) (mem_cons' (by unfold SzN; first | omega | (simp only [List.length_append, List.length_cons, List.length_nil]; omega)) (mem_cons' (by unfold SzN; first | omega | (simp only [List.length_append, List.length_cons, List.length_nil]; omega)) (mem_cons' (by unfold SzN; first | omega | (simp only [List.length_append, List.length_cons, List.length_nil]; omega)) (mem_cons' (by unfold SzN; first | omega | (simp only [List.length_append, List.length_cons, List.length_nil]; omega)) (mem_cons' (by unfold SzN; first | omega | (simp only [List.length_append, List.length_cons, List.length_nil]; omega)) (mem_cons' (by unfold SzN; first | omega | (simp only [List.length_append, List.length_cons, List.length_nil]; omega)) (mem_cons' (by unfold SzN; first | omega | (simp only [List.length_append, List.length_cons, List.length_nil]; omega)) (fun _ h => by cases h))))))))))))))))))⟩
 have lq1 : ([([102, 108, 121, 105, 110, 103] : List UInt8), ([114, 101, 97, 99, 104] : List UInt8), ([104, 97, 115, 116, 101] : List UInt8), ([118, 105, 103, 105, 108, 97, 110, 116] : List UInt8), ([116, 114, 97, 109, 112, 108, 101] : List UInt8), ([102, 105, 114, 115, 116, 45, 115, 116, 114, 105, 107, 101] : List UInt8), ([100, 111, 117, 98, 108, 101, 45, 115, 116, 114, 105, 107, 101] : List UInt8), ([100, 101, 97, 100, 108, 121] : List UInt8), ([108, 105, 102, 101, 108, 105, 110, 107] : List UInt8), ([109, 101, 110, 97, 99, 101] : List UInt8), ([100, 101, 102, 101, 110, 100, 101, 114] : List UInt8), ([119, 97, 114, 100, 101, 100] : List UInt8), ([115, 116, 117, 114, 100, 121] : List UInt8), ([101, 108, 117, 115, 105, 118, 101] : List UInt8), ([110, 111, 45, 97, 116, 116, 97, 99, 107] : List UInt8), ([110, 111, 45, 98, 108, 111, 99, 107] : List UInt8), ([109, 117, 115, 116, 45, 97, 116, 116, 97, 99, 107] : List UInt8)] : (List (List UInt8))).length = 17 := rfl
 exact tR ⟨q1, cl⟩
theorem Zw6 (a0 : Int) : Tot (Z9f a0) (fun r => (SzN r)) := by
 unfold Z9f
 refine tZ ?_
 dsimp only [Zab4, LT.den]
 refine tD (fun h1 => ?_) (fun h1 => ?_)
 ·exact tR (SzN.nil)
 ·refine tD (fun h2 => ?_) (fun h2 => ?_)
  ·exact tR (SzN.nil)
  ·refine tB (Zahm) (fun x3 h4 => ?_)
   replace h4 : ((SzL 16 SzN) x3) ∧ (x3.length = 17) := h4
   have eh4_1 := h4.2
   try simp only [List.length_nil, List.length_cons, Nat.zero_add] at eh4_1
   refine tB (tI (by omega) (by omega)) (fun x5 h6 => ?_)
   have oh6 : SzN x5 := h4.1.2 x5 h6.1
   exact tR oh6
def Z5o : Zp0 → Prop
 | .L0 v0 v3 v4 => (0 ≤ v4) ∧ (v3.length ≤ 200 * v4.toNat) ∧ (v4 ≤ 17)
def Zk2 : Zp0 → M6
 | .L0 v0 v3 v4 => (1, (17 - v4).toNat, 1000000, 0, 0, 0)
theorem Zad6 (v0 : Int) (v3 : (List UInt8)) (v4 : Int) (h : (0 ≤ v4) ∧ (v3.length ≤ 200 * v4.toNat) ∧ (v4 ≤ 17)) : Tot (Zy7 v0 v3 v4).den (Nx Z5o Zk2 (1, (17 - v4).toNat, 1000000, 0, 0, 0) (fun r => (SzT r))) := by
 obtain ⟨cv4, i0, i1⟩ := h
 dsimp only [Zy7, LT.den]
 refine tD (fun h1 => ?_) (fun h1 => ?_)
 ·refine tE (fun h2 => ?_) (fun h2 => ?_)
  ·refine tO (fun h3 => ?_) (fun h3 => ?_)
   ·refine tB (tK (by first | (simp only [List.length_append, List.length_cons, List.length_nil]; omega) | omega)) (fun x4 h5 => ?_)
    refine tB (Zw6 v4) (fun x6 h7 => ?_)
    replace h7 : (SzN x6) := h7
    have q8 : x6.length ≤ 100 := h7
    refine tB (tK (by first | (simp only [List.length_append, List.length_cons, List.length_nil]; omega) | omega)) (fun x9 h10 => ?_)
    have q11 : -9223372036854775808 ≤ (v4 + 1) → (v4 + 1) < 9223372036854775808 → IntKind.wrap .i64 (v4 + 1) = (v4 + 1) := Zao _
    have q12 : -9223372036854775808 ≤ IntKind.wrap .i64 (v4 + 1) ∧ IntKind.wrap .i64 (v4 + 1) < 9223372036854775808 := Zap _
    exact tL ⟨cl, cl, cl⟩ (by unfold Zk2 lt6; dsimp only; omega)
   ·refine tB (Zw6 v4) (fun x13 h14 => ?_)
    replace h14 : (SzN x13) := h14
    have q15 : x13.length ≤ 100 := h14
    refine tB (tK (by first | (simp only [List.length_append, List.length_cons, List.length_nil]; omega) | omega)) (fun x16 h17 => ?_)
    have q18 : -9223372036854775808 ≤ (v4 + 1) → (v4 + 1) < 9223372036854775808 → IntKind.wrap .i64 (v4 + 1) = (v4 + 1) := Zao _
    have q19 : -9223372036854775808 ≤ IntKind.wrap .i64 (v4 + 1) ∧ IntKind.wrap .i64 (v4 + 1) < 9223372036854775808 := Zap _
    exact tL ⟨cl, cl, cl⟩ (by unfold Zk2 lt6; dsimp only; omega)
  ·have q20 : -9223372036854775808 ≤ (v4 + 1) → (v4 + 1) < 9223372036854775808 → IntKind.wrap .i64 (v4 + 1) = (v4 + 1) := Zao _
   have q21 : -9223372036854775808 ≤ IntKind.wrap .i64 (v4 + 1) ∧ IntKind.wrap .i64 (v4 + 1) < 9223372036854775808 := Zap _
   exact tL ⟨cl, cl, cl⟩ (by unfold Zk2 lt6; dsimp only; omega)
 ·refine tF (fun h22 => ?_) (fun h22 => ?_)
  ·exact tR (by unfold SzT; first | omega | (simp only [List.length_append, List.length_cons, List.length_nil]; omega))
  ·exact tR (by unfold SzT; first | omega | (simp only [List.length_append, List.length_cons, List.length_nil]; omega))
theorem Z5p (a0 : Int) : Tot (Z9g a0) (fun r => (SzT r)) := by
 unfold Z9g
 refine tX (Inv := Z5o) (μ := Zk2) (m := (1000000, 0, 0, 0, 0, 0)) ?_ ?_
 ·dsimp only [Zab6, LT.den]
  refine tB (Zad2 a0) (fun x1 h2 => ?_)
  refine tO (fun h3 => ?_) (fun h3 => ?_)
  ·exact tR (SzT.nil)
  ·exact tL ⟨cl, cl, cl⟩ (by unfold Zk2 lt6; dsimp only; omega)
 ·intro s hs
  cases s with
  | L0 v0 v3 v4 => exact Zad6 v0 v3 v4 hs
theorem Z60 : Tot (Zok) (fun r => ((SzL 16 SzN) r) ∧ (r.length = 6)) := by
 unfold Zok
 refine tZ ?_
 dsimp only [Zxx, LT.den]
 have q1 : (SzL 16 SzN) ([([] : List UInt8), ([105, 110, 45, 104, 97, 110, 100] : List UInt8), ([105, 110, 45, 108, 105, 98, 114, 97, 114, 121] : List UInt8), ([105, 110, 45, 103, 114, 97, 118, 101, 121, 97, 114, 100] : List UInt8), ([105, 110, 45, 101, 120, 105, 108, 101] : List UInt8), ([111, 110, 45, 115, 116, 97, 99, 107] : List UInt8)] : (List (List UInt8))) := ⟨by simp only [List.length_cons, List.length_nil]; omega, (mem_cons' (SzN.nil) (mem_cons' (by unfold SzN; first | omega | (simp only [List.length_append, List.length_cons, List.length_nil]; omega)) (mem_cons' (by unfold SzN; first | omega | (simp only [List.length_append, List.length_cons, List.length_nil]; omega)) (mem_cons' (by unfold SzN; first | omega | (simp only [List.length_append, List.length_cons, List.length_nil]; omega)) (mem_cons' (by unfold SzN; first | omega | (simp only [List.length_append, List.length_cons, List.length_nil]; omega)) (mem_cons' (by unfold SzN; first | omega | (simp only [List.length_append, List.length_cons, List.length_nil]; omega)) (fun _ h => by cases h)))))))⟩
 have lq1 : ([([] : List UInt8), ([105, 110, 45, 104, 97, 110, 100] : List UInt8), ([105, 110, 45, 108, 105, 98, 114, 97, 114, 121] : List UInt8), ([105, 110, 45, 103, 114, 97, 118, 101, 121, 97, 114, 100] : List UInt8), ([105, 110, 45, 101, 120, 105, 108, 101] : List UInt8), ([111, 110, 45, 115, 116, 97, 99, 107] : List UInt8)] : (List (List UInt8))).length = 6 := rfl
 exact tR ⟨q1, cl⟩
theorem Zaal : Tot (Zp1) (fun r => ((SzL 16 SzN) r) ∧ (r.length = 3)) := by
 unfold Zp1
 refine tZ ?_
 dsimp only [Z0g, LT.den]
 have q1 : (SzL 16 SzN) ([([] : List UInt8), ([121, 111, 117, 114, 115] : List UInt8), ([116, 104, 101, 105, 114, 115] : List UInt8)] : (List (List UInt8))) := ⟨by simp only [List.length_cons, List.length_nil]; omega, (mem_cons' (SzN.nil) (mem_cons' (by unfold SzN; first | omega | (simp only [List.length_append, List.length_cons, List.length_nil]; omega)) (mem_cons' (by unfold SzN; first | omega | (simp only [List.length_append, List.length_cons, List.length_nil]; omega)) (fun _ h => by cases h))))⟩
 have lq1 : ([([] : List UInt8), ([121, 111, 117, 114, 115] : List UInt8), ([116, 104, 101, 105, 114, 115] : List UInt8)] : (List (List UInt8))).length = 3 := rfl
 exact tR ⟨q1, cl⟩
theorem Z61 : Tot (Zol) (fun r => ((SzL 16 SzN) r) ∧ (r.length = 3)) := by
 unfold Zol
 refine tZ ?_
 dsimp only [Zxz, LT.den]
 have q1 : (SzL 16 SzN) ([([] : List UInt8), ([115, 101, 108, 102] : List UInt8), ([111, 116, 104, 101, 114] : List UInt8)] : (List (List UInt8))) := ⟨by simp only [List.length_cons, List.length_nil]; omega, (mem_cons' (SzN.nil) (mem_cons' (by unfold SzN; first | omega | (simp only [List.length_append, List.length_cons, List.length_nil]; omega)) (mem_cons' (by unfold SzN; first | omega | (simp only [List.length_append, List.length_cons, List.length_nil]; omega)) (fun _ h => by cases h))))⟩
 have lq1 : ([([] : List UInt8), ([115, 101, 108, 102] : List UInt8), ([111, 116, 104, 101, 114] : List UInt8)] : (List (List UInt8))).length = 3 := rfl
 exact tR ⟨q1, cl⟩
theorem Zaam : Tot (Zp2) (fun r => ((SzL 16 SzN) r) ∧ (r.length = 3)) := by
 unfold Zp2
 refine tZ ?_
 dsimp only [Z0i, LT.den]
 have q1 : (SzL 16 SzN) ([([] : List UInt8), ([116, 97, 112, 112, 101, 100] : List UInt8), ([117, 110, 116, 97, 112, 112, 101, 100] : List UInt8)] : (List (List UInt8))) := ⟨by simp only [List.length_cons, List.length_nil]; omega, (mem_cons' (SzN.nil) (mem_cons' (by unfold SzN; first | omega | (simp only [List.length_append, List.length_cons, List.length_nil]; omega)) (mem_cons' (by unfold SzN; first | omega | (simp only [List.length_append, List.length_cons, List.length_nil]; omega)) (fun _ h => by cases h))))⟩
 have lq1 : ([([] : List UInt8), ([116, 97, 112, 112, 101, 100] : List UInt8), ([117, 110, 116, 97, 112, 112, 101, 100] : List UInt8)] : (List (List UInt8))).length = 3 := rfl
 exact tR ⟨q1, cl⟩
def Z8y : Zsn → Prop
 | .L0 v0 v1 v5 => (0 ≤ v5) ∧ (v1 ≤ 100)
def Zvb : Zsn → M6
 | .L0 v0 v1 v5 => (1, (v1 - v5).toNat, 1000000, 0, 0, 0)
theorem Zaf4 (v0 : Int) (v1 : Int) (v5 : Int) (h : (0 ≤ v5) ∧ (v1 ≤ 100)) : Tot (Z1p v0 v1 v5).den (Nx Z8y Zvb (1, (v1 - v5).toNat, 1000000, 0, 0, 0) (fun r => True)) := by
 obtain ⟨cv5, i0⟩ := h
 dsimp only [Z1p, LT.den]
 refine tD (fun h1 => ?_) (fun h1 => ?_)
 ·have q2 : -9223372036854775808 ≤ (v5 + 1) → (v5 + 1) < 9223372036854775808 → IntKind.wrap .i64 (v5 + 1) = (v5 + 1) := Zao _
  have q3 : -9223372036854775808 ≤ IntKind.wrap .i64 (v5 + 1) ∧ IntKind.wrap .i64 (v5 + 1) < 9223372036854775808 := Zap _
  exact tL ⟨cl, cl⟩ (by unfold Zvb lt6; dsimp only; omega)
 ·exact tR trivial
theorem Zoe (a0 : Int) (a1 : Int) (h0 : a1 ≤ 100) : Tot (Zafl a0 a1) (fun r => True) := by
 unfold Zafl
 refine tX (Inv := Z8y) (μ := Zvb) (m := (1000000, 0, 0, 0, 0, 0)) ?_ ?_
 ·dsimp only [Zagt, LT.den]
  exact tL ⟨cl, cl⟩ (by unfold Zvb lt6; dsimp only; omega)
 ·intro s hs
  cases s with
  | L0 v0 v1 v5 => exact Zaf4 v0 v1 v5 hs
def Zw7 : Zi8 → Prop
 | .L0 v0 v3 v4 => (0 ≤ v4) ∧ (v0 ≤ 100)
def Zlg : Zi8 → M6
 | .L0 v0 v3 v4 => (1, (v0 - v4).toNat, 1000000, 0, 0, 0)
theorem Z3j (v0 : Int) (v3 : Int) (v4 : Int) (h : (0 ≤ v4) ∧ (v0 ≤ 100)) : Tot (Zp4 v0 v3 v4).den (Nx Zw7 Zlg (1, (v0 - v4).toNat, 1000000, 0, 0, 0) (fun r => (SzT r) ∧ (r.length ≤ 20000))) := by
 obtain ⟨cv4, i0⟩ := h
 dsimp only [Zp4, LT.den]
 refine tD (fun h1 => ?_) (fun h1 => ?_)
 ·have q2 : -9223372036854775808 ≤ (v3 * 2) → (v3 * 2) < 9223372036854775808 → IntKind.wrap .i64 (v3 * 2) = (v3 * 2) := Zao _
  have q3 : -9223372036854775808 ≤ IntKind.wrap .i64 (v3 * 2) ∧ IntKind.wrap .i64 (v3 * 2) < 9223372036854775808 := Zap _
  have q4 : -9223372036854775808 ≤ (v4 + 1) → (v4 + 1) < 9223372036854775808 → IntKind.wrap .i64 (v4 + 1) = (v4 + 1) := Zao _
  have q5 : -9223372036854775808 ≤ IntKind.wrap .i64 (v4 + 1) ∧ IntKind.wrap .i64 (v4 + 1) < 9223372036854775808 := Zap _
  exact tL ⟨cl, cl⟩ (by unfold Zlg lt6; dsimp only; omega)
 ·refine tB (Znl v3) (fun x6 h7 => ?_)
  replace h7 : (SzT x6) ∧ (x6.length ≤ 20000) := h7
  have eh7_1 := h7.2
  try simp only [List.length_nil, List.length_cons, Nat.zero_add] at eh7_1
  exact tR ⟨h7.1, cl⟩
theorem Zw8 (a0 : Int) (h0 : a0 ≤ 100) : Tot (Zv6 a0) (fun r => (SzT r) ∧ (r.length ≤ 20000)) := by
 unfold Zv6
 refine tX (Inv := Zw7) (μ := Zlg) (m := (1000000, 0, 0, 0, 0, 0)) ?_ ?_
 ·dsimp only [Z0k, LT.den]
  exact tL ⟨cl, cl⟩ (by unfold Zlg lt6; dsimp only; omega)
 ·intro s hs
  cases s with
  | L0 v0 v3 v4 => exact Z3j v0 v3 v4 hs
theorem Zahn : Tot (Zx2) (fun r => ((SzL 16 SzN) r) ∧ (r.length = 4)) := by
 unfold Zx2
 refine tZ ?_
 dsimp only [Z7q, LT.den]
 have q1 : (SzL 16 SzN) ([([] : List UInt8), ([62, 61] : List UInt8), ([60, 61] : List UInt8), ([61] : List UInt8)] : (List (List UInt8))) := ⟨by simp only [List.length_cons, List.length_nil]; omega, (mem_cons' (SzN.nil) (mem_cons' (by unfold SzN; first | omega | (simp only [List.length_append, List.length_cons, List.length_nil]; omega)) (mem_cons' (by unfold SzN; first | omega | (simp only [List.length_append, List.length_cons, List.length_nil]; omega)) (mem_cons' (by unfold SzN; first | omega | (simp only [List.length_append, List.length_cons, List.length_nil]; omega)) (fun _ h => by cases h)))))⟩
 have lq1 : ([([] : List UInt8), ([62, 61] : List UInt8), ([60, 61] : List UInt8), ([61] : List UInt8)] : (List (List UInt8))).length = 4 := rfl
 exact tR ⟨q1, cl⟩
theorem Zasz {n : Int} (h0 : 0 ≤ n) (h1 : n < 18446744073709551616) : Zo1 .u64 n 10 = n / 10 := by
 unfold Zo1
 rw [Int.tdiv_eq_ediv_of_nonneg h0]
 have h2 : 0 ≤ n / 10 := by omega
 have h3 : n / 10 < 18446744073709551616 := by omega
 simp only [IntKind.wrap, IntKind.bits, IntKind.signed, Bool.false_and, Bool.false_eq_true, if_false]
 exact Int.emod_eq_of_lt h2 h3
theorem Zyn : ∀ (k : Nat) (n : Int) (s : List UInt8), k ≤ 20 → 0 ≤ n → n < 10 ^ k → n < 18446744073709551616 → s.length + k ≤ 40 → Tot (Zaw Zp5.step (.L0 n s)) fun r => SzN r ∧ r.length ≤ 40
 | 0, n, s, _, h0, h1, _, hs => by
  have : n = 0 := by omega
  subst this
  refine Tot.stop (r := s) ?_ ⟨show s.length ≤ 100 by omega, by omega⟩
  show (Zht _ _).den = _
  dsimp only [Zht, LT.den]
  rfl
 | k + 1, n, s, hk, h0, h1, h2, hs => by
  by_cases hn : n > 0
  ·obtain ⟨d, hd, hl⟩ := Tot.str (xs := [IntKind.wrap .u8 (IntKind.wrap .u64 (48 + (Int.tmod n 10)))]) (by simp) (by intro m hm; simp only [List.mem_cons, List.not_mem_nil, or_false] at hm; subst hm; exact Zara _)
   simp only [List.length_cons, List.length_nil] at hl
   have e : Zp5.step (.L0 n s) = some (.inl (.L0 (n / 10) (d ++ s))) := by
    show (Zht _ _).den = _
    dsimp only [Zht, LT.den]
    rw [decide_eq_true hn, cond_true, hd, Option.bind_some, decide_eq_true (show d.length + s.length ≤ 9223372036854775807 by omega), Zasz h0 h2]
    rfl
   obtain ⟨r, hr, hp⟩ := Zyn k (n / 10) (d ++ s) (by omega) (by omega) (by
    rw [Int.pow_succ] at h1
    have : n / 10 < 10 ^ k := Int.ediv_lt_of_lt_mul (by decide) h1
    exact this) (by omega) (by rw [List.length_append]; omega)
   exact ⟨r, by rw [Zcw e]; exact hr, hp⟩
  ·refine Tot.stop (r := s) ?_ ⟨show s.length ≤ 100 by omega, by omega⟩
   show (Zht _ _).den = _
   dsimp only [Zht, LT.den]
   rw [decide_eq_false hn]; rfl
theorem Z05 (a0 : Int) (h0 : 0 ≤ a0) (h1 : a0 < 18446744073709551616) : Tot (Z1q a0) (fun r => (SzN r) ∧ (r.length ≤ 40)) := by
 unfold Z1q LF.run; dsimp only [Z4f, LT.den]
 obtain ⟨d, hd, hl⟩ := Tot.str (xs := [IntKind.wrap .u8 (IntKind.wrap .u64 (48 + (Int.tmod a0 10)))]) (by simp) (by intro m hm; simp only [List.mem_cons, List.not_mem_nil, or_false] at hm; subst hm; exact Zara _)
 simp only [List.length_cons, List.length_nil] at hl
 rw [hd, Option.bind_some, Option.bind_some, Zbb, Zasz h0 h1]
 exact Zyn 20 (a0 / 10) d (by omega) (by omega) (by omega) (by omega) (by omega)
theorem Zjk (a0 : Int) : Tot (Z9l a0) (fun r => (SzN r)) := by
 unfold Z9l
 refine tZ ?_
 dsimp only [Zaca, LT.den]
 refine tD (fun h1 => ?_) (fun h1 => ?_)
 ·have q2 : 0 ≤ IntKind.wrap .u64 a0 ∧ IntKind.wrap .u64 a0 < 18446744073709551616 := Z6p _
  have q3 : 0 ≤ IntKind.wrap .u64 (0 - (IntKind.wrap .u64 a0)) ∧ IntKind.wrap .u64 (0 - (IntKind.wrap .u64 a0)) < 18446744073709551616 := Z6p _
  refine tB (Z05 (IntKind.wrap .u64 (0 - (IntKind.wrap .u64 a0))) cl cl) (fun x4 h5 => ?_)
  replace h5 : (SzN x4) ∧ (x4.length ≤ 40) := h5
  have eh5_1 := h5.2
  try simp only [List.length_nil, List.length_cons, Nat.zero_add] at eh5_1
  have q6 : x4.length ≤ 100 := h5.1
  refine tB (tK (by first | (simp only [List.length_append, List.length_cons, List.length_nil]; omega) | omega)) (fun x7 h8 => ?_)
  exact tR (by unfold SzN; first | omega | (simp only [List.length_append, List.length_cons, List.length_nil]; omega))
 ·have q9 : 0 ≤ IntKind.wrap .u64 a0 ∧ IntKind.wrap .u64 a0 < 18446744073709551616 := Z6p _
  refine tB (Z05 (IntKind.wrap .u64 a0) cl cl) (fun x10 h11 => ?_)
  replace h11 : (SzN x10) ∧ (x10.length ≤ 40) := h11
  have eh11_1 := h11.2
  try simp only [List.length_nil, List.length_cons, Nat.zero_add] at eh11_1
  exact tR h11.1
theorem Znm (a0 : (List UInt8)) (a1 : Zc) (oa0 : SzN a0) (h0 : 0 ≤ a1.Kind) (h1 : a1.Kind ≤ 3) : Tot (Ztk a0 a1) (fun r => (SzT r)) := by
 unfold Ztk
 refine tZ ?_
 have lb_a0 : a0.length ≤ 100 := oa0
 dsimp only [Zx3, LT.den]
 refine tE (fun h1 => ?_) (fun h1 => ?_)
 ·exact tR (SzT.nil)
 ·refine tB (Zahn) (fun x2 h3 => ?_)
  replace h3 : ((SzL 16 SzN) x2) ∧ (x2.length = 4) := h3
  have eh3_1 := h3.2
  try simp only [List.length_nil, List.length_cons, Nat.zero_add] at eh3_1
  refine tB (tI (by omega) (by omega)) (fun x4 h5 => ?_)
  have oh5 : SzN x4 := h3.1.2 x4 h5.1
  have q6 : a0.length ≤ 100 := oa0
  have q7 : x4.length ≤ 100 := oh5
  refine tB (tK (by first | (simp only [List.length_append, List.length_cons, List.length_nil]; omega) | omega)) (fun x8 h9 => ?_)
  refine tB (Zjk a1.N) (fun x10 h11 => ?_)
  replace h11 : (SzN x10) := h11
  have q12 : x10.length ≤ 100 := h11
  refine tB (tK (by first | (simp only [List.length_append, List.length_cons, List.length_nil]; omega) | omega)) (fun x13 h14 => ?_)
  exact tR (by unfold SzT; first | omega | (simp only [List.length_append, List.length_cons, List.length_nil]; omega))
def Z5q : Zp6 → Prop
 | .L0 v0 v1 v5 v6 => ((SzL 16 SzT) v0) ∧ (SzN v1) ∧ (0 ≤ v6) ∧ (v5.length ≤ 1125899906842624 * v6.toNat) ∧ (v0.length ≤ 100) ∧ (v6 ≤ v0.length)
def Zof : Zp6 → M6
 | .L0 v0 v1 v5 v6 => (1, ((v0.length : Int) - v6).toNat, 1000000, 0, 0, 0)
theorem Zad7 (v0 : (List (List UInt8))) (v1 : (List UInt8)) (v5 : (List UInt8)) (v6 : Int) (h : ((SzL 16 SzT) v0) ∧ (SzN v1) ∧ (0 ≤ v6) ∧ (v5.length ≤ 1125899906842624 * v6.toNat) ∧ (v0.length ≤ 100) ∧ (v6 ≤ v0.length)) : Tot (Zy8 v0 v1 v5 v6).den (Nx Z5q Zof (1, ((v0.length : Int) - v6).toNat, 1000000, 0, 0, 0) (fun r => (r.length ≤ 144115188075855872))) := by
 obtain ⟨ov0, ov1, cv6, i0, i1, i2⟩ := h
 have lb_v0 : v0.length * 16 ≤ 140737488351232 := ov0.1
 have lb_v1 : v1.length ≤ 100 := ov1
 dsimp only [Zy8, LT.den]
 have q1 : v0.length * 16 ≤ 140737488351232 := ov0.1
 refine tD (fun h2 => ?_) (fun h2 => ?_)
 ·refine tD (fun h3 => ?_) (fun h3 => ?_)
  ·have q4 : v1.length ≤ 100 := ov1
   refine tB (tK (by first | (simp only [List.length_append, List.length_cons, List.length_nil]; omega) | omega)) (fun x5 h6 => ?_)
   refine tB (tI (by omega) (by omega)) (fun x7 h8 => ?_)
   have oh8 : SzT x7 := ov0.2 x7 h8.1
   have q9 : x7.length ≤ 562949953421312 := oh8
   refine tB (tK (by first | (simp only [List.length_append, List.length_cons, List.length_nil]; omega) | omega)) (fun x10 h11 => ?_)
   have q12 : -9223372036854775808 ≤ (v6 + 1) → (v6 + 1) < 9223372036854775808 → IntKind.wrap .i64 (v6 + 1) = (v6 + 1) := Zao _
   have q13 : -9223372036854775808 ≤ IntKind.wrap .i64 (v6 + 1) ∧ IntKind.wrap .i64 (v6 + 1) < 9223372036854775808 := Zap _
   exact tL ⟨ov0, ov1, cl, cl, cl, cl⟩ (by unfold Zof lt6; dsimp only; omega)
  ·refine tB (tI (by omega) (by omega)) (fun x14 h15 => ?_)
   have oh15 : SzT x14 := ov0.2 x14 h15.1
   have q16 : x14.length ≤ 562949953421312 := oh15
   refine tB (tK (by first | (simp only [List.length_append, List.length_cons, List.length_nil]; omega) | omega)) (fun x17 h18 => ?_)
   have q19 : -9223372036854775808 ≤ (v6 + 1) → (v6 + 1) < 9223372036854775808 → IntKind.wrap .i64 (v6 + 1) = (v6 + 1) := Zao _
   have q20 : -9223372036854775808 ≤ IntKind.wrap .i64 (v6 + 1) ∧ IntKind.wrap .i64 (v6 + 1) < 9223372036854775808 := Zap _
   exact tL ⟨ov0, ov1, cl, cl, cl, cl⟩ (by unfold Zof lt6; dsimp only; omega)
 ·exact tR cl
theorem Zal7 (a0 : (List (List UInt8))) (a1 : (List UInt8)) (oa0 : (SzL 16 SzT) a0) (oa1 : SzN a1) (h0 : a0.length ≤ 100) : Tot (Z9m a0 a1) (fun r => (r.length ≤ 144115188075855872)) := by
 unfold Z9m
 refine tX (Inv := Z5q) (μ := Zof) (m := (1000000, 0, 0, 0, 0, 0)) ?_ ?_
 ·have lb_a0 : a0.length * 16 ≤ 140737488351232 := oa0.1
  have lb_a1 : a1.length ≤ 100 := oa1
  dsimp only [Zacc, LT.den]
  exact tL ⟨oa0, oa1, cl, cl, cl, cl⟩ (by unfold Zof lt6; dsimp only; omega)
 ·intro s hs
  cases s with
  | L0 v0 v1 v5 v6 => exact Zad7 v0 v1 v5 v6 hs
theorem Zf4 (b0 : (List (List UInt8))) (a1 : (List UInt8)) (ob0 : (SzL 16 SzT) b0) (oa1 : SzT a1) (h0 : b0.length ≤ 1000) : Tot (Zv8 b0 a1) (fun r => ((SzL 16 SzT) r) ∧ (r.length ≤ b0.length + 1)) := by
 unfold Zv8
 refine tZ ?_
 have lb_b0 : b0.length * 16 ≤ 140737488351232 := ob0.1
 have lb_a1 : a1.length ≤ 562949953421312 := oa1
 dsimp only [Z0m, LT.den]
 refine tF (fun h1 => ?_) (fun h1 => ?_)
 ·exact tR ⟨ob0, cl⟩
 ·have q2 : (SzL 16 SzT) ([a1] : (List (List UInt8))) := ⟨by simp only [List.length_cons, List.length_nil]; omega, (mem_cons' oa1 (fun _ h => by cases h))⟩
  refine tB ((by have q5 : b0.length * 16 ≤ 140737488351232 := ob0.1; have q6 : [a1].length * 16 ≤ 140737488351232 := q2.1;  exact tA (by first | omega | (simp only [List.length_cons, List.length_nil]; omega)) (by decide))) (fun x3 h4 => ?_)
  have lh4 : x3.length = b0.length + [a1].length := by rw [h4, List.length_append]
  try simp only [List.length_cons, List.length_nil, Nat.zero_add] at lh4
  exact tR ⟨(SzL.app h4 (by omega) ob0.2 q2.2), cl⟩
def Zic : Zhf → Prop
 | .L0 E0 v6 v7 v8 => (Za8 E0) ∧ ((SzL 16 SzN) v6) ∧ ((SzL 16 SzT) v7) ∧ (0 ≤ v8) ∧ (v7.length ≤ 3 + v8.toNat) ∧ (v8 ≤ 6) ∧ (v6.length = 3) ∧ (0 ≤ E0.Tap ∧ E0.Tap ≤ 2 ∧ 0 ≤ E0.Power.Kind ∧ E0.Power.Kind ≤ 3 ∧ 0 ≤ E0.Tough.Kind ∧ E0.Tough.Kind ≤ 3 ∧ 0 ≤ E0.Value.Kind ∧ E0.Value.Kind ≤ 3)
 | .L1 E0 v6 v7 v9 => (Za8 E0) ∧ ((SzL 16 SzN) v6) ∧ ((SzL 16 SzT) v7) ∧ (0 ≤ v9) ∧ (v7.length ≤ 9 + v9.toNat) ∧ (v9 ≤ 6) ∧ (v6.length = 3) ∧ (0 ≤ E0.Tap ∧ E0.Tap ≤ 2 ∧ 0 ≤ E0.Power.Kind ∧ E0.Power.Kind ≤ 3 ∧ 0 ≤ E0.Tough.Kind ∧ E0.Tough.Kind ≤ 3 ∧ 0 ≤ E0.Value.Kind ∧ E0.Value.Kind ≤ 3)
 | .L2 E0 v6 v7 v10 => (Za8 E0) ∧ ((SzL 16 SzN) v6) ∧ ((SzL 16 SzT) v7) ∧ (0 ≤ v10) ∧ (v7.length ≤ 15 + v10.toNat) ∧ (v10 ≤ 5) ∧ (v6.length = 3) ∧ (0 ≤ E0.Tap ∧ E0.Tap ≤ 2 ∧ 0 ≤ E0.Power.Kind ∧ E0.Power.Kind ≤ 3 ∧ 0 ≤ E0.Tough.Kind ∧ E0.Tough.Kind ≤ 3 ∧ 0 ≤ E0.Value.Kind ∧ E0.Value.Kind ≤ 3)
 | .L3 E0 v6 v7 v11 => (Za8 E0) ∧ ((SzL 16 SzN) v6) ∧ ((SzL 16 SzT) v7) ∧ (0 ≤ v11) ∧ (v7.length ≤ 20 + v11.toNat) ∧ (v11 ≤ 5) ∧ (v6.length = 3) ∧ (0 ≤ E0.Tap ∧ E0.Tap ≤ 2 ∧ 0 ≤ E0.Power.Kind ∧ E0.Power.Kind ≤ 3 ∧ 0 ≤ E0.Tough.Kind ∧ E0.Tough.Kind ≤ 3 ∧ 0 ≤ E0.Value.Kind ∧ E0.Value.Kind ≤ 3)
 | .L4 E0 v6 v7 => (Za8 E0) ∧ ((SzL 16 SzN) v6) ∧ ((SzL 16 SzT) v7) ∧ (v7.length ≤ 26) ∧ (v6.length = 3) ∧ (0 ≤ E0.Tap ∧ E0.Tap ≤ 2 ∧ 0 ≤ E0.Power.Kind ∧ E0.Power.Kind ≤ 3 ∧ 0 ≤ E0.Tough.Kind ∧ E0.Tough.Kind ≤ 3 ∧ 0 ≤ E0.Value.Kind ∧ E0.Value.Kind ≤ 3)
 | .L5 E0 v6 v7 v12 => (Za8 E0) ∧ ((SzL 16 SzN) v6) ∧ ((SzL 16 SzT) v7) ∧ (0 ≤ v12) ∧ (v7.length ≤ 26 + v12.toNat) ∧ (v12 ≤ 17) ∧ (v6.length = 3) ∧ (0 ≤ E0.Tap ∧ E0.Tap ≤ 2 ∧ 0 ≤ E0.Power.Kind ∧ E0.Power.Kind ≤ 3 ∧ 0 ≤ E0.Tough.Kind ∧ E0.Tough.Kind ≤ 3 ∧ 0 ≤ E0.Value.Kind ∧ E0.Value.Kind ≤ 3)
def Zb2 : Zhf → M6
 | .L0 E0 v6 v7 v8 => (9, (6 - v8).toNat, 1000000, 0, 0, 0)
 | .L1 E0 v6 v7 v9 => (7, (6 - v9).toNat, 1000000, 0, 0, 0)
 | .L2 E0 v6 v7 v10 => (5, (5 - v10).toNat, 1000000, 0, 0, 0)
 | .L3 E0 v6 v7 v11 => (3, (5 - v11).toNat, 1000000, 0, 0, 0)
 | .L4 E0 v6 v7 => (2, 0, 0, 0, 0, 0)
 | .L5 E0 v6 v7 v12 => (1, (17 - v12).toNat, 1000000, 0, 0, 0)
theorem Zqv (E0 : Zi) (v6 : (List (List UInt8))) (v7 : (List (List UInt8))) (h : (Za8 E0) ∧ ((SzL 16 SzN) v6) ∧ ((SzL 16 SzT) v7) ∧ (v7.length ≤ 26) ∧ (v6.length = 3) ∧ (0 ≤ E0.Tap ∧ E0.Tap ≤ 2 ∧ 0 ≤ E0.Power.Kind ∧ E0.Power.Kind ≤ 3 ∧ 0 ≤ E0.Tough.Kind ∧ E0.Tough.Kind ≤ 3 ∧ 0 ≤ E0.Value.Kind ∧ E0.Value.Kind ≤ 3)) : Tot (Znu E0 v6 v7).den (Nx Zic Zb2 (2, 0, 0, 0, 0, 0) (fun r => (r.length ≤ 144115188075855872))) := by
 obtain ⟨ob30000000, ov6, ov7, i0, i1, i2⟩ := h
 have lb_v6 : v6.length * 16 ≤ 140737488351232 := ov6.1
 have lb_v7 : v7.length * 16 ≤ 140737488351232 := ov7.1
 dsimp only [Znu, LT.den]
 exact tL ⟨ob30000000, ov6, ov7, cl, cl, cl, cl, cl⟩ (by unfold Zb2 lt6; dsimp only; omega)
theorem Zad8 (E0 : Zi) (v6 : (List (List UInt8))) (v7 : (List (List UInt8))) (v8 : Int) (h : (Za8 E0) ∧ ((SzL 16 SzN) v6) ∧ ((SzL 16 SzT) v7) ∧ (0 ≤ v8) ∧ (v7.length ≤ 3 + v8.toNat) ∧ (v8 ≤ 6) ∧ (v6.length = 3) ∧ (0 ≤ E0.Tap ∧ E0.Tap ≤ 2 ∧ 0 ≤ E0.Power.Kind ∧ E0.Power.Kind ≤ 3 ∧ 0 ≤ E0.Tough.Kind ∧ E0.Tough.Kind ≤ 3 ∧ 0 ≤ E0.Value.Kind ∧ E0.Value.Kind ≤ 3)) : Tot (Zy9 E0 v6 v7 v8).den (Nx Zic Zb2 (9, (6 - v8).toNat, 1000000, 0, 0, 0) (fun r => (r.length ≤ 144115188075855872))) := by
 obtain ⟨ob30000000, ov6, ov7, cv8, i0, i1, i2, i3⟩ := h
 have lb_v6 : v6.length * 16 ≤ 140737488351232 := ov6.1
 have lb_v7 : v7.length * 16 ≤ 140737488351232 := ov7.1
 dsimp only [Zy9, LT.den]
 refine tD (fun h1 => ?_) (fun h1 => ?_)
 ·refine tB (Zoe E0.Types v8 cl) (fun x2 h3 => ?_)
  refine tF (fun h4 => ?_) (fun h4 => ?_)
  ·refine tB (Zw8 v8 cl) (fun x5 h6 => ?_)
   replace h6 : (SzT x5) ∧ (x5.length ≤ 20000) := h6
   have eh6_1 := h6.2
   try simp only [List.length_nil, List.length_cons, Nat.zero_add] at eh6_1
   have q7 : (SzL 16 SzT) ([x5] : (List (List UInt8))) := ⟨by simp only [List.length_cons, List.length_nil]; omega, (mem_cons' h6.1 (fun _ h => by cases h))⟩
   refine tB ((by have q10 : v7.length * 16 ≤ 140737488351232 := ov7.1; have q11 : [x5].length * 16 ≤ 140737488351232 := q7.1;  exact tA (by first | omega | (simp only [List.length_cons, List.length_nil]; omega)) (by decide))) (fun x8 h9 => ?_)
   have lh9 : x8.length = v7.length + [x5].length := by rw [h9, List.length_append]
   try simp only [List.length_cons, List.length_nil, Nat.zero_add] at lh9
   have q12 : -9223372036854775808 ≤ (v8 + 1) → (v8 + 1) < 9223372036854775808 → IntKind.wrap .i64 (v8 + 1) = (v8 + 1) := Zao _
   have q13 : -9223372036854775808 ≤ IntKind.wrap .i64 (v8 + 1) ∧ IntKind.wrap .i64 (v8 + 1) < 9223372036854775808 := Zap _
   exact tL ⟨ob30000000, ov6, (SzL.app h9 (by omega) ov7.2 q7.2), cl, cl, cl, cl, cl⟩ (by unfold Zb2 lt6; dsimp only; omega)
  ·have q14 : -9223372036854775808 ≤ (v8 + 1) → (v8 + 1) < 9223372036854775808 → IntKind.wrap .i64 (v8 + 1) = (v8 + 1) := Zao _
   have q15 : -9223372036854775808 ≤ IntKind.wrap .i64 (v8 + 1) ∧ IntKind.wrap .i64 (v8 + 1) < 9223372036854775808 := Zap _
   exact tL ⟨ob30000000, ov6, ov7, cl, cl, cl, cl, cl⟩ (by unfold Zb2 lt6; dsimp only; omega)
 ·exact tL ⟨ob30000000, ov6, ov7, cl, cl, cl, cl, cl⟩ (by unfold Zb2 lt6; dsimp only; omega)
theorem Zad9 (E0 : Zi) (v6 : (List (List UInt8))) (v7 : (List (List UInt8))) (v9 : Int) (h : (Za8 E0) ∧ ((SzL 16 SzN) v6) ∧ ((SzL 16 SzT) v7) ∧ (0 ≤ v9) ∧ (v7.length ≤ 9 + v9.toNat) ∧ (v9 ≤ 6) ∧ (v6.length = 3) ∧ (0 ≤ E0.Tap ∧ E0.Tap ≤ 2 ∧ 0 ≤ E0.Power.Kind ∧ E0.Power.Kind ≤ 3 ∧ 0 ≤ E0.Tough.Kind ∧ E0.Tough.Kind ≤ 3 ∧ 0 ≤ E0.Value.Kind ∧ E0.Value.Kind ≤ 3)) : Tot (Zza E0 v6 v7 v9).den (Nx Zic Zb2 (7, (6 - v9).toNat, 1000000, 0, 0, 0) (fun r => (r.length ≤ 144115188075855872))) := by
 obtain ⟨ob30000000, ov6, ov7, cv9, i0, i1, i2, i3⟩ := h
 have lb_v6 : v6.length * 16 ≤ 140737488351232 := ov6.1
 have lb_v7 : v7.length * 16 ≤ 140737488351232 := ov7.1
 dsimp only [Zza, LT.den]
 refine tD (fun h1 => ?_) (fun h1 => ?_)
 ·refine tB (Zoe E0.NotTypes v9 cl) (fun x2 h3 => ?_)
  refine tF (fun h4 => ?_) (fun h4 => ?_)
  ·refine tB (Zw8 v9 cl) (fun x5 h6 => ?_)
   replace h6 : (SzT x5) ∧ (x5.length ≤ 20000) := h6
   have eh6_1 := h6.2
   try simp only [List.length_nil, List.length_cons, Nat.zero_add] at eh6_1
   have q7 : x5.length ≤ 562949953421312 := h6.1
   refine tB (tK (by first | (simp only [List.length_append, List.length_cons, List.length_nil]; omega) | omega)) (fun x8 h9 => ?_)
   have q10 : (SzL 16 SzT) ([(([110, 111, 110, 45] : List UInt8) ++ x5)] : (List (List UInt8))) := ⟨by simp only [List.length_cons, List.length_nil]; omega, (mem_cons' (by unfold SzT; first | omega | (simp only [List.length_append, List.length_cons, List.length_nil]; omega)) (fun _ h => by cases h))⟩
   refine tB ((by have q13 : v7.length * 16 ≤ 140737488351232 := ov7.1; have q14 : [(([110, 111, 110, 45] : List UInt8) ++ x5)].length * 16 ≤ 140737488351232 := q10.1;  exact tA (by first | omega | (simp only [List.length_cons, List.length_nil]; omega)) (by decide))) (fun x11 h12 => ?_)
   have lh12 : x11.length = v7.length + [(([110, 111, 110, 45] : List UInt8) ++ x5)].length := by rw [h12, List.length_append]
   try simp only [List.length_cons, List.length_nil, Nat.zero_add] at lh12
   have q15 : -9223372036854775808 ≤ (v9 + 1) → (v9 + 1) < 9223372036854775808 → IntKind.wrap .i64 (v9 + 1) = (v9 + 1) := Zao _
   have q16 : -9223372036854775808 ≤ IntKind.wrap .i64 (v9 + 1) ∧ IntKind.wrap .i64 (v9 + 1) < 9223372036854775808 := Zap _
   exact tL ⟨ob30000000, ov6, (SzL.app h12 (by omega) ov7.2 q10.2), cl, cl, cl, cl, cl⟩ (by unfold Zb2 lt6; dsimp only; omega)
  ·have q17 : -9223372036854775808 ≤ (v9 + 1) → (v9 + 1) < 9223372036854775808 → IntKind.wrap .i64 (v9 + 1) = (v9 + 1) := Zao _
   have q18 : -9223372036854775808 ≤ IntKind.wrap .i64 (v9 + 1) ∧ IntKind.wrap .i64 (v9 + 1) < 9223372036854775808 := Zap _
   exact tL ⟨ob30000000, ov6, ov7, cl, cl, cl, cl, cl⟩ (by unfold Zb2 lt6; dsimp only; omega)
 ·exact tL ⟨ob30000000, ov6, ov7, cl, cl, cl, cl, cl⟩ (by unfold Zb2 lt6; dsimp only; omega)
theorem Zaea (E0 : Zi) (v6 : (List (List UInt8))) (v7 : (List (List UInt8))) (v10 : Int) (h : (Za8 E0) ∧ ((SzL 16 SzN) v6) ∧ ((SzL 16 SzT) v7) ∧ (0 ≤ v10) ∧ (v7.length ≤ 15 + v10.toNat) ∧ (v10 ≤ 5) ∧ (v6.length = 3) ∧ (0 ≤ E0.Tap ∧ E0.Tap ≤ 2 ∧ 0 ≤ E0.Power.Kind ∧ E0.Power.Kind ≤ 3 ∧ 0 ≤ E0.Tough.Kind ∧ E0.Tough.Kind ≤ 3 ∧ 0 ≤ E0.Value.Kind ∧ E0.Value.Kind ≤ 3)) : Tot (Zzb E0 v6 v7 v10).den (Nx Zic Zb2 (5, (5 - v10).toNat, 1000000, 0, 0, 0) (fun r => (r.length ≤ 144115188075855872))) := by
 obtain ⟨ob30000000, ov6, ov7, cv10, i0, i1, i2, i3⟩ := h
 have lb_v6 : v6.length * 16 ≤ 140737488351232 := ov6.1
 have lb_v7 : v7.length * 16 ≤ 140737488351232 := ov7.1
 dsimp only [Zzb, LT.den]
 refine tD (fun h1 => ?_) (fun h1 => ?_)
 ·refine tB (Zoe E0.Colors v10 cl) (fun x2 h3 => ?_)
  refine tF (fun h4 => ?_) (fun h4 => ?_)
  ·refine tB (Zqu v10) (fun x5 h6 => ?_)
   replace h6 : (SzN x5) := h6
   have q7 : (SzL 16 SzN) ([x5] : (List (List UInt8))) := ⟨by simp only [List.length_cons, List.length_nil]; omega, (mem_cons' h6 (fun _ h => by cases h))⟩
   refine tB ((by have q10 : v7.length * 16 ≤ 140737488351232 := ov7.1; have q11 : [x5].length * 16 ≤ 140737488351232 := (SzL.nt q7).1;  exact tA (by first | omega | (simp only [List.length_cons, List.length_nil]; omega)) (by decide))) (fun x8 h9 => ?_)
   have lh9 : x8.length = v7.length + [x5].length := by rw [h9, List.length_append]
   try simp only [List.length_cons, List.length_nil, Nat.zero_add] at lh9
   have q12 : -9223372036854775808 ≤ (v10 + 1) → (v10 + 1) < 9223372036854775808 → IntKind.wrap .i64 (v10 + 1) = (v10 + 1) := Zao _
   have q13 : -9223372036854775808 ≤ IntKind.wrap .i64 (v10 + 1) ∧ IntKind.wrap .i64 (v10 + 1) < 9223372036854775808 := Zap _
   exact tL ⟨ob30000000, ov6, (SzL.app h9 (by omega) ov7.2 (SzL.nt q7).2), cl, cl, cl, cl, cl⟩ (by unfold Zb2 lt6; dsimp only; omega)
  ·have q14 : -9223372036854775808 ≤ (v10 + 1) → (v10 + 1) < 9223372036854775808 → IntKind.wrap .i64 (v10 + 1) = (v10 + 1) := Zao _
   have q15 : -9223372036854775808 ≤ IntKind.wrap .i64 (v10 + 1) ∧ IntKind.wrap .i64 (v10 + 1) < 9223372036854775808 := Zap _
   exact tL ⟨ob30000000, ov6, ov7, cl, cl, cl, cl, cl⟩ (by unfold Zb2 lt6; dsimp only; omega)
 ·exact tL ⟨ob30000000, ov6, ov7, cl, cl, cl, cl, cl⟩ (by unfold Zb2 lt6; dsimp only; omega)
theorem Zaeb (E0 : Zi) (v6 : (List (List UInt8))) (v7 : (List (List UInt8))) (v11 : Int) (h : (Za8 E0) ∧ ((SzL 16 SzN) v6) ∧ ((SzL 16 SzT) v7) ∧ (0 ≤ v11) ∧ (v7.length ≤ 20 + v11.toNat) ∧ (v11 ≤ 5) ∧ (v6.length = 3) ∧ (0 ≤ E0.Tap ∧ E0.Tap ≤ 2 ∧ 0 ≤ E0.Power.Kind ∧ E0.Power.Kind ≤ 3 ∧ 0 ≤ E0.Tough.Kind ∧ E0.Tough.Kind ≤ 3 ∧ 0 ≤ E0.Value.Kind ∧ E0.Value.Kind ≤ 3)) : Tot (Zzc E0 v6 v7 v11).den (Nx Zic Zb2 (3, (5 - v11).toNat, 1000000, 0, 0, 0) (fun r => (r.length ≤ 144115188075855872))) := by
 obtain ⟨ob30000000, ov6, ov7, cv11, i0, i1, i2, i3⟩ := h
 have lb_v6 : v6.length * 16 ≤ 140737488351232 := ov6.1
 have lb_v7 : v7.length * 16 ≤ 140737488351232 := ov7.1
 dsimp only [Zzc, LT.den]
 refine tD (fun h1 => ?_) (fun h1 => ?_)
 ·refine tB (Zoe E0.NotColors v11 cl) (fun x2 h3 => ?_)
  refine tF (fun h4 => ?_) (fun h4 => ?_)
  ·refine tB (Zqu v11) (fun x5 h6 => ?_)
   replace h6 : (SzN x5) := h6
   have q7 : x5.length ≤ 100 := h6
   refine tB (tK (by first | (simp only [List.length_append, List.length_cons, List.length_nil]; omega) | omega)) (fun x8 h9 => ?_)
   have q10 : (SzL 16 SzT) ([(([110, 111, 110, 45] : List UInt8) ++ x5)] : (List (List UInt8))) := ⟨by simp only [List.length_cons, List.length_nil]; omega, (mem_cons' (by unfold SzT; first | omega | (simp only [List.length_append, List.length_cons, List.length_nil]; omega)) (fun _ h => by cases h))⟩
   refine tB ((by have q13 : v7.length * 16 ≤ 140737488351232 := ov7.1; have q14 : [(([110, 111, 110, 45] : List UInt8) ++ x5)].length * 16 ≤ 140737488351232 := q10.1;  exact tA (by first | omega | (simp only [List.length_cons, List.length_nil]; omega)) (by decide))) (fun x11 h12 => ?_)
   have lh12 : x11.length = v7.length + [(([110, 111, 110, 45] : List UInt8) ++ x5)].length := by rw [h12, List.length_append]
   try simp only [List.length_cons, List.length_nil, Nat.zero_add] at lh12
   have q15 : -9223372036854775808 ≤ (v11 + 1) → (v11 + 1) < 9223372036854775808 → IntKind.wrap .i64 (v11 + 1) = (v11 + 1) := Zao _
   have q16 : -9223372036854775808 ≤ IntKind.wrap .i64 (v11 + 1) ∧ IntKind.wrap .i64 (v11 + 1) < 9223372036854775808 := Zap _
   exact tL ⟨ob30000000, ov6, (SzL.app h12 (by omega) ov7.2 q10.2), cl, cl, cl, cl, cl⟩ (by unfold Zb2 lt6; dsimp only; omega)
  ·have q17 : -9223372036854775808 ≤ (v11 + 1) → (v11 + 1) < 9223372036854775808 → IntKind.wrap .i64 (v11 + 1) = (v11 + 1) := Zao _
   have q18 : -9223372036854775808 ≤ IntKind.wrap .i64 (v11 + 1) ∧ IntKind.wrap .i64 (v11 + 1) < 9223372036854775808 := Zap _
   exact tL ⟨ob30000000, ov6, ov7, cl, cl, cl, cl, cl⟩ (by unfold Zb2 lt6; dsimp only; omega)
 ·refine tO (fun h19 => ?_) (fun h19 => ?_)
  ·have q20 : E0.Sub.length ≤ 281474976710656 := ob30000000
   refine tB (tK (by first | (simp only [List.length_append, List.length_cons, List.length_nil]; omega) | omega)) (fun x21 h22 => ?_)
   have q23 : (SzL 16 SzT) ([(([115, 117, 98, 58] : List UInt8) ++ E0.Sub)] : (List (List UInt8))) := ⟨by simp only [List.length_cons, List.length_nil]; omega, (mem_cons' (by unfold SzT; first | omega | (simp only [List.length_append, List.length_cons, List.length_nil]; omega)) (fun _ h => by cases h))⟩
   refine tB ((by have q26 : v7.length * 16 ≤ 140737488351232 := ov7.1; have q27 : [(([115, 117, 98, 58] : List UInt8) ++ E0.Sub)].length * 16 ≤ 140737488351232 := q23.1;  exact tA (by first | omega | (simp only [List.length_cons, List.length_nil]; omega)) (by decide))) (fun x24 h25 => ?_)
   have lh25 : x24.length = v7.length + [(([115, 117, 98, 58] : List UInt8) ++ E0.Sub)].length := by rw [h25, List.length_append]
   try simp only [List.length_cons, List.length_nil, Nat.zero_add] at lh25
   exact tJ (Zqv E0 v6 x24 ⟨ob30000000, ov6, (SzL.app h25 (by omega) ov7.2 q23.2), cl, cl, cl⟩)
  ·exact tJ (Zqv E0 v6 v7 ⟨ob30000000, ov6, ov7, cl, cl, cl⟩)
theorem Zaec (E0 : Zi) (v6 : (List (List UInt8))) (v7 : (List (List UInt8))) (v12 : Int) (h : (Za8 E0) ∧ ((SzL 16 SzN) v6) ∧ ((SzL 16 SzT) v7) ∧ (0 ≤ v12) ∧ (v7.length ≤ 26 + v12.toNat) ∧ (v12 ≤ 17) ∧ (v6.length = 3) ∧ (0 ≤ E0.Tap ∧ E0.Tap ≤ 2 ∧ 0 ≤ E0.Power.Kind ∧ E0.Power.Kind ≤ 3 ∧ 0 ≤ E0.Tough.Kind ∧ E0.Tough.Kind ≤ 3 ∧ 0 ≤ E0.Value.Kind ∧ E0.Value.Kind ≤ 3)) : Tot (Zzd E0 v6 v7 v12).den (Nx Zic Zb2 (1, (17 - v12).toNat, 1000000, 0, 0, 0) (fun r => (r.length ≤ 144115188075855872))) := by
 obtain ⟨ob30000000, ov6, ov7, cv12, i0, i1, i2, i3⟩ := h
 have lb_v6 : v6.length * 16 ≤ 140737488351232 := ov6.1
 have lb_v7 : v7.length * 16 ≤ 140737488351232 := ov7.1
 dsimp only [Zzd, LT.den]
 refine tD (fun h1 => ?_) (fun h1 => ?_)
 ·refine tB (Zoe E0.Keys v12 cl) (fun x2 h3 => ?_)
  refine tF (fun h4 => ?_) (fun h4 => ?_)
  ·refine tB (Zw6 v12) (fun x5 h6 => ?_)
   replace h6 : (SzN x5) := h6
   have q7 : x5.length ≤ 100 := h6
   refine tB (tK (by first | (simp only [List.length_append, List.length_cons, List.length_nil]; omega) | omega)) (fun x8 h9 => ?_)
   have q10 : (SzL 16 SzT) ([(([119, 105, 116, 104, 58] : List UInt8) ++ x5)] : (List (List UInt8))) := ⟨by simp only [List.length_cons, List.length_nil]; omega, (mem_cons' (by unfold SzT; first | omega | (simp only [List.length_append, List.length_cons, List.length_nil]; omega)) (fun _ h => by cases h))⟩
   refine tB ((by have q13 : v7.length * 16 ≤ 140737488351232 := ov7.1; have q14 : [(([119, 105, 116, 104, 58] : List UInt8) ++ x5)].length * 16 ≤ 140737488351232 := q10.1;  exact tA (by first | omega | (simp only [List.length_cons, List.length_nil]; omega)) (by decide))) (fun x11 h12 => ?_)
   have lh12 : x11.length = v7.length + [(([119, 105, 116, 104, 58] : List UInt8) ++ x5)].length := by rw [h12, List.length_append]
   try simp only [List.length_cons, List.length_nil, Nat.zero_add] at lh12
   have q15 : -9223372036854775808 ≤ (v12 + 1) → (v12 + 1) < 9223372036854775808 → IntKind.wrap .i64 (v12 + 1) = (v12 + 1) := Zao _
   have q16 : -9223372036854775808 ≤ IntKind.wrap .i64 (v12 + 1) ∧ IntKind.wrap .i64 (v12 + 1) < 9223372036854775808 := Zap _
   exact tL ⟨ob30000000, ov6, (SzL.app h12 (by omega) ov7.2 q10.2), cl, cl, cl, cl, cl⟩ (by unfold Zb2 lt6; dsimp only; omega)
  ·have q17 : -9223372036854775808 ≤ (v12 + 1) → (v12 + 1) < 9223372036854775808 → IntKind.wrap .i64 (v12 + 1) = (v12 + 1) := Zao _
   have q18 : -9223372036854775808 ≤ IntKind.wrap .i64 (v12 + 1) ∧ IntKind.wrap .i64 (v12 + 1) < 9223372036854775808 := Zap _
   exact tL ⟨ob30000000, ov6, ov7, cl, cl, cl, cl, cl⟩ (by unfold Zb2 lt6; dsimp only; omega)
 ·refine tB (tI (by omega) (by omega)) (fun x19 h20 => ?_)
  have oh20 : SzN x19 := ov6.2 x19 h20.1
  refine tB (Zf4 v7 x19 ov7 (SzN.t oh20) cl) (fun x21 h22 => ?_)
  replace h22 : ((SzL 16 SzT) x21) ∧ (x21.length ≤ v7.length + 1) := h22
  have eh22_1 := h22.2
  try simp only [List.length_nil, List.length_cons, Nat.zero_add] at eh22_1
  refine tB (Znm ([112, 111, 119, 101, 114] : List UInt8) E0.Power (by unfold SzN; first | omega | (simp only [List.length_append, List.length_cons, List.length_nil]; omega)) cl cl) (fun x23 h24 => ?_)
  replace h24 : (SzT x23) := h24
  refine tB (Zf4 x21 x23 h22.1 h24 cl) (fun x25 h26 => ?_)
  replace h26 : ((SzL 16 SzT) x25) ∧ (x25.length ≤ x21.length + 1) := h26
  have eh26_1 := h26.2
  try simp only [List.length_nil, List.length_cons, Nat.zero_add] at eh26_1
  refine tB (Znm ([116, 111, 117, 103, 104] : List UInt8) E0.Tough (by unfold SzN; first | omega | (simp only [List.length_append, List.length_cons, List.length_nil]; omega)) cl cl) (fun x27 h28 => ?_)
  replace h28 : (SzT x27) := h28
  refine tB (Zf4 x25 x27 h26.1 h28 cl) (fun x29 h30 => ?_)
  replace h30 : ((SzL 16 SzT) x29) ∧ (x29.length ≤ x25.length + 1) := h30
  have eh30_1 := h30.2
  try simp only [List.length_nil, List.length_cons, Nat.zero_add] at eh30_1
  refine tB (Znm ([118, 97, 108, 117, 101] : List UInt8) E0.Value (by unfold SzN; first | omega | (simp only [List.length_append, List.length_cons, List.length_nil]; omega)) cl cl) (fun x31 h32 => ?_)
  replace h32 : (SzT x31) := h32
  refine tB (Zf4 x29 x31 h30.1 h32 cl) (fun x33 h34 => ?_)
  replace h34 : ((SzL 16 SzT) x33) ∧ (x33.length ≤ x29.length + 1) := h34
  have eh34_1 := h34.2
  try simp only [List.length_nil, List.length_cons, Nat.zero_add] at eh34_1
  have q35 : x33.length * 16 ≤ 140737488351232 := h34.1.1
  refine tE (fun h36 => ?_) (fun h36 => ?_)
  ·exact tR cl
  ·refine tB (Zal7 x33 ([32] : List UInt8) h34.1 (by unfold SzN; first | omega | (simp only [List.length_append, List.length_cons, List.length_nil]; omega)) cl) (fun x37 h38 => ?_)
   replace h38 : (x37.length ≤ 144115188075855872) := h38
   have eh38_0 := h38
   try simp only [List.length_nil, List.length_cons, Nat.zero_add] at eh38_0
   exact tR cl
theorem Zal8 (a0 : Zi) (oa0 : Za8 a0) : Tot (Z9n a0) (fun r => (r.length ≤ 144115188075855872)) := by
 unfold Z9n
 refine tX (Inv := Zic) (μ := Zb2) (m := (1000000, 0, 0, 0, 0, 0)) ?_ ?_
 ·dsimp only [Zace, LT.den]
  refine tB (Zgq a0 oa0) (fun x1 h2 => ?_)
  replace h2 : (x1 = true → 0 ≤ a0.Zone ∧ a0.Zone ≤ 5 ∧ 0 ≤ a0.Who ∧ a0.Who ≤ 2 ∧ 0 ≤ a0.Self ∧ a0.Self ≤ 2 ∧ 0 ≤ a0.Tap ∧ a0.Tap ≤ 2 ∧ 0 ≤ a0.Power.Kind ∧ a0.Power.Kind ≤ 3 ∧ 0 ≤ a0.Tough.Kind ∧ a0.Tough.Kind ≤ 3 ∧ 0 ≤ a0.Value.Kind ∧ a0.Value.Kind ≤ 3) := h2
  have eh2_0 := h2
  refine tO (fun h3 => ?_) (fun h3 => ?_)
  ·exact tR cl
  ·have h3_0 := eh2_0 h3
   refine tB (Z60) (fun x4 h5 => ?_)
   replace h5 : ((SzL 16 SzN) x4) ∧ (x4.length = 6) := h5
   have eh5_1 := h5.2
   try simp only [List.length_nil, List.length_cons, Nat.zero_add] at eh5_1
   refine tB (Zaal) (fun x6 h7 => ?_)
   replace h7 : ((SzL 16 SzN) x6) ∧ (x6.length = 3) := h7
   have eh7_1 := h7.2
   try simp only [List.length_nil, List.length_cons, Nat.zero_add] at eh7_1
   refine tB (Z61) (fun x8 h9 => ?_)
   replace h9 : ((SzL 16 SzN) x8) ∧ (x8.length = 3) := h9
   have eh9_1 := h9.2
   try simp only [List.length_nil, List.length_cons, Nat.zero_add] at eh9_1
   refine tB (Zaam) (fun x10 h11 => ?_)
   replace h11 : ((SzL 16 SzN) x10) ∧ (x10.length = 3) := h11
   have eh11_1 := h11.2
   try simp only [List.length_nil, List.length_cons, Nat.zero_add] at eh11_1
   refine tB (tI (by omega) (by omega)) (fun x12 h13 => ?_)
   have oh13 : SzN x12 := h5.1.2 x12 h13.1
   refine tB (Zf4 ([] : (List (List UInt8))) x12 SzL.nil (SzN.t oh13) cl) (fun x14 h15 => ?_)
   replace h15 : ((SzL 16 SzT) x14) ∧ (x14.length ≤ ([] : (List (List UInt8))).length + 1) := h15
   have eh15_1 := h15.2
   try simp only [List.length_nil, List.length_cons, Nat.zero_add] at eh15_1
   refine tB (tI (by omega) (by omega)) (fun x16 h17 => ?_)
   have oh17 : SzN x16 := h7.1.2 x16 h17.1
   refine tB (Zf4 x14 x16 h15.1 (SzN.t oh17) cl) (fun x18 h19 => ?_)
   replace h19 : ((SzL 16 SzT) x18) ∧ (x18.length ≤ x14.length + 1) := h19
   have eh19_1 := h19.2
   try simp only [List.length_nil, List.length_cons, Nat.zero_add] at eh19_1
   refine tB (tI (by omega) (by omega)) (fun x20 h21 => ?_)
   have oh21 : SzN x20 := h9.1.2 x20 h21.1
   refine tB (Zf4 x18 x20 h19.1 (SzN.t oh21) cl) (fun x22 h23 => ?_)
   replace h23 : ((SzL 16 SzT) x22) ∧ (x22.length ≤ x18.length + 1) := h23
   have eh23_1 := h23.2
   try simp only [List.length_nil, List.length_cons, Nat.zero_add] at eh23_1
   exact tL ⟨oa0, h11.1, h23.1, cl, cl, cl, cl, cl⟩ (by unfold Zb2 lt6; dsimp only; omega)
 ·intro s hs
  cases s with
  | L0 E0 v6 v7 v8 => exact Zad8 E0 v6 v7 v8 hs
  | L1 E0 v6 v7 v9 => exact Zad9 E0 v6 v7 v9 hs
  | L2 E0 v6 v7 v10 => exact Zaea E0 v6 v7 v10 hs
  | L3 E0 v6 v7 v11 => exact Zaeb E0 v6 v7 v11 hs
  | L4 E0 v6 v7 => exact Zqv E0 v6 v7 hs
  | L5 E0 v6 v7 v12 => exact Zaec E0 v6 v7 v12 hs
theorem Z5r (a0 : Zj) (oa0 : Za1 a0) : Tot (Z9o a0) (fun r => (r.length ≤ 288230376151711744)) := by
 unfold Z9o
 refine tZ ?_
 dsimp only [Zacg, LT.den]
 refine tB (Zad4 a0 oa0) (fun x1 h2 => ?_)
 refine tO (fun h3 => ?_) (fun h3 => ?_)
 ·exact tR cl
 ·refine tE (fun h4 => ?_) (fun h4 => ?_)
  ·exact tR cl
  ·refine tE (fun h5 => ?_) (fun h5 => ?_)
   ·refine tB (Znl a0.N) (fun x6 h7 => ?_)
    replace h7 : (SzT x6) ∧ (x6.length ≤ 20000) := h7
    have eh7_1 := h7.2
    try simp only [List.length_nil, List.length_cons, Nat.zero_add] at eh7_1
    have q8 : x6.length ≤ 562949953421312 := h7.1
    refine tB (tK (by first | (simp only [List.length_append, List.length_cons, List.length_nil]; omega) | omega)) (fun x9 h10 => ?_)
    exact tR cl
   ·refine tE (fun h11 => ?_) (fun h11 => ?_)
    ·refine tB (Znl a0.N) (fun x12 h13 => ?_)
     replace h13 : (SzT x12) ∧ (x12.length ≤ 20000) := h13
     have eh13_1 := h13.2
     try simp only [List.length_nil, List.length_cons, Nat.zero_add] at eh13_1
     have q14 : x12.length ≤ 562949953421312 := h13.1
     refine tB (tK (by first | (simp only [List.length_append, List.length_cons, List.length_nil]; omega) | omega)) (fun x15 h16 => ?_)
     exact tR cl
    ·refine tE (fun h17 => ?_) (fun h17 => ?_)
     ·have q18 : a0.Sub.length ≤ 281474976710656 := oa0.1
      refine tB (tK (by first | (simp only [List.length_append, List.length_cons, List.length_nil]; omega) | omega)) (fun x19 h20 => ?_)
      exact tR cl
     ·refine tE (fun h21 => ?_) (fun h21 => ?_)
      ·have q22 : a0.Sub.length ≤ 281474976710656 := oa0.1
       refine tB (tK (by first | (simp only [List.length_append, List.length_cons, List.length_nil]; omega) | omega)) (fun x23 h24 => ?_)
       exact tR cl
      ·refine tE (fun h25 => ?_) (fun h25 => ?_)
       ·refine tB (Z5n a0.N) (fun x26 h27 => ?_)
        replace h27 : (SzT x26) := h27
        have q28 : x26.length ≤ 562949953421312 := h27
        refine tB (tK (by first | (simp only [List.length_append, List.length_cons, List.length_nil]; omega) | omega)) (fun x29 h30 => ?_)
        exact tR cl
       ·refine tE (fun h31 => ?_) (fun h31 => ?_)
        ·refine tB (Z5n a0.N) (fun x32 h33 => ?_)
         replace h33 : (SzT x32) := h33
         have q34 : x32.length ≤ 562949953421312 := h33
         refine tB (tK (by first | (simp only [List.length_append, List.length_cons, List.length_nil]; omega) | omega)) (fun x35 h36 => ?_)
         exact tR cl
        ·refine tE (fun h37 => ?_) (fun h37 => ?_)
         ·refine tB (Z5p a0.N) (fun x38 h39 => ?_)
          replace h39 : (SzT x38) := h39
          have q40 : x38.length ≤ 562949953421312 := h39
          refine tB (tK (by first | (simp only [List.length_append, List.length_cons, List.length_nil]; omega) | omega)) (fun x41 h42 => ?_)
          exact tR cl
         ·refine tE (fun h43 => ?_) (fun h43 => ?_)
          ·refine tB (Z5p a0.N) (fun x44 h45 => ?_)
           replace h45 : (SzT x44) := h45
           have q46 : x44.length ≤ 562949953421312 := h45
           refine tB (tK (by first | (simp only [List.length_append, List.length_cons, List.length_nil]; omega) | omega)) (fun x47 h48 => ?_)
           exact tR cl
          ·refine tE (fun h49 => ?_) (fun h49 => ?_)
           ·exact tR cl
           ·refine tE (fun h50 => ?_) (fun h50 => ?_)
            ·refine tB (Zal8 a0.Filter oa0.2) (fun x51 h52 => ?_)
             replace h52 : (x51.length ≤ 144115188075855872) := h52
             have eh52_0 := h52
             try simp only [List.length_nil, List.length_cons, Nat.zero_add] at eh52_0
             refine tB (tK (by first | (simp only [List.length_append, List.length_cons, List.length_nil]; omega) | omega)) (fun x53 h54 => ?_)
             refine tB (tK (by first | (simp only [List.length_append, List.length_cons, List.length_nil]; omega) | omega)) (fun x55 h56 => ?_)
             exact tR cl
            ·refine tE (fun h57 => ?_) (fun h57 => ?_)
             ·refine tB (Zjk a0.N) (fun x58 h59 => ?_)
              replace h59 : (SzN x58) := h59
              have q60 : x58.length ≤ 100 := h59
              refine tB (tK (by first | (simp only [List.length_append, List.length_cons, List.length_nil]; omega) | omega)) (fun x61 h62 => ?_)
              refine tB (tK (by first | (simp only [List.length_append, List.length_cons, List.length_nil]; omega) | omega)) (fun x63 h64 => ?_)
              refine tB (Zjk a0.M) (fun x65 h66 => ?_)
              replace h66 : (SzN x65) := h66
              have q67 : x65.length ≤ 100 := h66
              refine tB (tK (by first | (simp only [List.length_append, List.length_cons, List.length_nil]; omega) | omega)) (fun x68 h69 => ?_)
              exact tR cl
             ·refine tE (fun h70 => ?_) (fun h70 => ?_)
              ·refine tB (Zjk a0.N) (fun x71 h72 => ?_)
               replace h72 : (SzN x71) := h72
               have q73 : x71.length ≤ 100 := h72
               refine tB (tK (by first | (simp only [List.length_append, List.length_cons, List.length_nil]; omega) | omega)) (fun x74 h75 => ?_)
               refine tB (tK (by first | (simp only [List.length_append, List.length_cons, List.length_nil]; omega) | omega)) (fun x76 h77 => ?_)
               refine tB (Zjk a0.M) (fun x78 h79 => ?_)
               replace h79 : (SzN x78) := h79
               have q80 : x78.length ≤ 100 := h79
               refine tB (tK (by first | (simp only [List.length_append, List.length_cons, List.length_nil]; omega) | omega)) (fun x81 h82 => ?_)
               exact tR cl
              ·exact tR cl
def Zw9 : Zi9 → Prop
 | .L0 v0 v3 v4 => ((SzL 176 Za1) v0) ∧ (0 ≤ v4) ∧ (v3.length ≤ 576460752303423488 * v4.toNat) ∧ (v0.length ≤ 6) ∧ (v4 ≤ v0.length)
def Ziw : Zi9 → M6
 | .L0 v0 v3 v4 => (1, ((v0.length : Int) - v4).toNat, 1000000, 0, 0, 0)
theorem Z3k (v0 : (List Zj)) (v3 : (List UInt8)) (v4 : Int) (h : ((SzL 176 Za1) v0) ∧ (0 ≤ v4) ∧ (v3.length ≤ 576460752303423488 * v4.toNat) ∧ (v0.length ≤ 6) ∧ (v4 ≤ v0.length)) : Tot (Zp7 v0 v3 v4).den (Nx Zw9 Ziw (1, ((v0.length : Int) - v4).toNat, 1000000, 0, 0, 0) (fun r => (r.length ≤ 4611686018427387904))) := by
 obtain ⟨ov0, cv4, i0, i1, i2⟩ := h
 have lb_v0 : v0.length * 176 ≤ 140737488351232 := ov0.1
 dsimp only [Zp7, LT.den]
 have q1 : v0.length * 176 ≤ 140737488351232 := ov0.1
 refine tD (fun h2 => ?_) (fun h2 => ?_)
 ·refine tB (tI (by omega) (by omega)) (fun x3 h4 => ?_)
  have oh4 : Za1 x3 := ov0.2 x3 h4.1
  refine tB (Zad4 x3 oh4) (fun x5 h6 => ?_)
  refine tO (fun h7 => ?_) (fun h7 => ?_)
  ·exact tR cl
  ·refine tD (fun h8 => ?_) (fun h8 => ?_)
   ·refine tB (tK (by first | (simp only [List.length_append, List.length_cons, List.length_nil]; omega) | omega)) (fun x9 h10 => ?_)
    refine tB (Z5r x3 oh4) (fun x11 h12 => ?_)
    replace h12 : (x11.length ≤ 288230376151711744) := h12
    have eh12_0 := h12
    try simp only [List.length_nil, List.length_cons, Nat.zero_add] at eh12_0
    refine tB (tK (by first | (simp only [List.length_append, List.length_cons, List.length_nil]; omega) | omega)) (fun x13 h14 => ?_)
    have q15 : -9223372036854775808 ≤ (v4 + 1) → (v4 + 1) < 9223372036854775808 → IntKind.wrap .i64 (v4 + 1) = (v4 + 1) := Zao _
    have q16 : -9223372036854775808 ≤ IntKind.wrap .i64 (v4 + 1) ∧ IntKind.wrap .i64 (v4 + 1) < 9223372036854775808 := Zap _
    exact tL ⟨ov0, cl, cl, cl, cl⟩ (by unfold Ziw lt6; dsimp only; omega)
   ·refine tB (Z5r x3 oh4) (fun x17 h18 => ?_)
    replace h18 : (x17.length ≤ 288230376151711744) := h18
    have eh18_0 := h18
    try simp only [List.length_nil, List.length_cons, Nat.zero_add] at eh18_0
    refine tB (tK (by first | (simp only [List.length_append, List.length_cons, List.length_nil]; omega) | omega)) (fun x19 h20 => ?_)
    have q21 : -9223372036854775808 ≤ (v4 + 1) → (v4 + 1) < 9223372036854775808 → IntKind.wrap .i64 (v4 + 1) = (v4 + 1) := Zao _
    have q22 : -9223372036854775808 ≤ IntKind.wrap .i64 (v4 + 1) ∧ IntKind.wrap .i64 (v4 + 1) < 9223372036854775808 := Zap _
    exact tL ⟨ov0, cl, cl, cl, cl⟩ (by unfold Ziw lt6; dsimp only; omega)
 ·exact tR cl
theorem Zpb (a0 : (List Zj)) (oa0 : (SzL 176 Za1) a0) : Tot (Zv9 a0) (fun r => (r.length ≤ 4611686018427387904)) := by
 unfold Zv9
 refine tX (Inv := Zw9) (μ := Ziw) (m := (1000000, 0, 0, 0, 0, 0)) ?_ ?_
 ·have lb_a0 : a0.length * 176 ≤ 140737488351232 := oa0.1
  dsimp only [Z0o, LT.den]
  have q1 : a0.length * 176 ≤ 140737488351232 := oa0.1
  refine tE (fun h2 => ?_) (fun h2 => ?_)
  ·exact tR cl
  ·refine tD (fun h3 => ?_) (fun h3 => ?_)
   ·exact tR cl
   ·exact tL ⟨oa0, cl, cl, cl, cl⟩ (by unfold Ziw lt6; dsimp only; omega)
 ·intro s hs
  cases s with
  | L0 v0 v3 v4 => exact Z3k v0 v3 v4 hs
theorem Zaho (a0 : Ze5) : Tot (Z4g a0) (fun r => True) := by
 unfold Z4g
 refine tZ ?_
 dsimp only [Z7t, LT.den]
 refine tB (Z2e a0.Mana) (fun x1 h2 => ?_)
 replace h2 : (x1 = true → a0.Mana.X ≤ 2) ∧ (x1 = true → ∀ n, n ∈ A5.list a0.Mana.Color → n ≤ 9) := h2
 have eh2_0 := h2.1
 have eh2_1 := h2.2
 refine tF (fun h3 => ?_) (fun h3 => ?_)
 ·have h3_0 := eh2_0 h3
  have h3_1 := eh2_1 h3
  refine tE (fun h4 => ?_) (fun h4 => ?_)
  ·refine tD (fun h5 => ?_) (fun h5 => ?_)
   ·exact tR trivial
   ·exact tR trivial
  ·exact tR trivial
 ·exact tR trivial
theorem Z5s (a0 : Int) : Tot (Z9p a0) (fun r => (SzN r)) := by
 unfold Z9p
 refine tZ ?_
 dsimp only [Zaci, LT.den]
 refine tE (fun h1 => ?_) (fun h1 => ?_)
 ·exact tR (by unfold SzN; first | omega | (simp only [List.length_append, List.length_cons, List.length_nil]; omega))
 ·refine tE (fun h2 => ?_) (fun h2 => ?_)
  ·exact tR (by unfold SzN; first | omega | (simp only [List.length_append, List.length_cons, List.length_nil]; omega))
  ·refine tE (fun h3 => ?_) (fun h3 => ?_)
   ·exact tR (by unfold SzN; first | omega | (simp only [List.length_append, List.length_cons, List.length_nil]; omega))
   ·refine tE (fun h4 => ?_) (fun h4 => ?_)
    ·exact tR (by unfold SzN; first | omega | (simp only [List.length_append, List.length_cons, List.length_nil]; omega))
    ·refine tE (fun h5 => ?_) (fun h5 => ?_)
     ·exact tR (by unfold SzN; first | omega | (simp only [List.length_append, List.length_cons, List.length_nil]; omega))
     ·refine tE (fun h6 => ?_) (fun h6 => ?_)
      ·exact tR (by unfold SzN; first | omega | (simp only [List.length_append, List.length_cons, List.length_nil]; omega))
      ·refine tE (fun h7 => ?_) (fun h7 => ?_)
       ·exact tR (by unfold SzN; first | omega | (simp only [List.length_append, List.length_cons, List.length_nil]; omega))
       ·refine tE (fun h8 => ?_) (fun h8 => ?_)
        ·exact tR (by unfold SzN; first | omega | (simp only [List.length_append, List.length_cons, List.length_nil]; omega))
        ·refine tE (fun h9 => ?_) (fun h9 => ?_)
         ·exact tR (by unfold SzN; first | omega | (simp only [List.length_append, List.length_cons, List.length_nil]; omega))
         ·refine tE (fun h10 => ?_) (fun h10 => ?_)
          ·exact tR (by unfold SzN; first | omega | (simp only [List.length_append, List.length_cons, List.length_nil]; omega))
          ·refine tE (fun h11 => ?_) (fun h11 => ?_)
           ·exact tR (by unfold SzN; first | omega | (simp only [List.length_append, List.length_cons, List.length_nil]; omega))
           ·refine tE (fun h12 => ?_) (fun h12 => ?_)
            ·exact tR (by unfold SzN; first | omega | (simp only [List.length_append, List.length_cons, List.length_nil]; omega))
            ·refine tE (fun h13 => ?_) (fun h13 => ?_)
             ·exact tR (by unfold SzN; first | omega | (simp only [List.length_append, List.length_cons, List.length_nil]; omega))
             ·refine tE (fun h14 => ?_) (fun h14 => ?_)
              ·exact tR (by unfold SzN; first | omega | (simp only [List.length_append, List.length_cons, List.length_nil]; omega))
              ·exact tR (SzN.nil)
theorem Z06 (a0 : Int) : Tot (Z1r a0) (fun r => True) := by
 unfold Z1r
 refine tZ ?_
 dsimp only [Z4h, LT.den]
 refine tE (fun h1 => ?_) (fun h1 => ?_)
 ·exact tR trivial
 ·refine tE (fun h2 => ?_) (fun h2 => ?_)
  ·exact tR trivial
  ·refine tE (fun h3 => ?_) (fun h3 => ?_)
   ·exact tR trivial
   ·refine tE (fun h4 => ?_) (fun h4 => ?_)
    ·exact tR trivial
    ·refine tE (fun h5 => ?_) (fun h5 => ?_)
     ·exact tR trivial
     ·exact tR trivial
theorem Z62 (a0 : Int) : Tot (Ztl a0) (fun r => True) := by
 unfold Ztl
 refine tZ ?_
 dsimp only [Zx5, LT.den]
 refine tB (Z5s a0) (fun x1 h2 => ?_)
 replace h2 : (SzN x1) := h2
 refine tO (fun h3 => ?_) (fun h3 => ?_)
 ·refine tB (Z06 a0) (fun x4 h5 => ?_)
  refine tO (fun h6 => ?_) (fun h6 => ?_)
  ·exact tR trivial
  ·exact tR trivial
 ·exact tR trivial
def Zaed : Zwa → Prop
 | .L0 E0 => (Zjj E0) ∧ True
def Zag2 : Zwa → M6
 | .L0 E0 => (0, 0, 0, 0, 0, 0)
theorem Zuc (E0 : Zce) (h : (Zjj E0) ∧ True) : Tot (Zso E0).den (Nx Zaed Zag2 (0, 0, 0, 0, 0, 0) (fun r => True)) := by
 obtain ⟨ob30000000, _⟩ := h
 dsimp only [Zso, LT.den]
 refine tB (Z62 E0.When) (fun x1 h2 => ?_)
 refine tO (fun h3 => ?_) (fun h3 => ?_)
 ·exact tR trivial
 ·refine tE (fun h4 => ?_) (fun h4 => ?_)
  ·refine tB (Zgq E0.Filter ob30000000) (fun x5 h6 => ?_)
   replace h6 : (x5 = true → 0 ≤ E0.Filter.Zone ∧ E0.Filter.Zone ≤ 5 ∧ 0 ≤ E0.Filter.Who ∧ E0.Filter.Who ≤ 2 ∧ 0 ≤ E0.Filter.Self ∧ E0.Filter.Self ≤ 2 ∧ 0 ≤ E0.Filter.Tap ∧ E0.Filter.Tap ≤ 2 ∧ 0 ≤ E0.Filter.Power.Kind ∧ E0.Filter.Power.Kind ≤ 3 ∧ 0 ≤ E0.Filter.Tough.Kind ∧ E0.Filter.Tough.Kind ≤ 3 ∧ 0 ≤ E0.Filter.Value.Kind ∧ E0.Filter.Value.Kind ≤ 3) := h6
   have eh6_0 := h6
   refine tF (fun h7 => ?_) (fun h7 => ?_)
   ·have h7_0 := eh6_0 h7
    exact tR trivial
   ·exact tR trivial
  ·refine tB (Zgq E0.Filter ob30000000) (fun x8 h9 => ?_)
   replace h9 : (x8 = true → 0 ≤ E0.Filter.Zone ∧ E0.Filter.Zone ≤ 5 ∧ 0 ≤ E0.Filter.Who ∧ E0.Filter.Who ≤ 2 ∧ 0 ≤ E0.Filter.Self ∧ E0.Filter.Self ≤ 2 ∧ 0 ≤ E0.Filter.Tap ∧ E0.Filter.Tap ≤ 2 ∧ 0 ≤ E0.Filter.Power.Kind ∧ E0.Filter.Power.Kind ≤ 3 ∧ 0 ≤ E0.Filter.Tough.Kind ∧ E0.Filter.Tough.Kind ≤ 3 ∧ 0 ≤ E0.Filter.Value.Kind ∧ E0.Filter.Value.Kind ≤ 3) := h9
   have eh9_0 := h9
   refine tF (fun h10 => ?_) (fun h10 => ?_)
   ·have h10_0 := eh9_0 h10
    exact tR trivial
   ·exact tR trivial
theorem Zapl (a0 : Zce) (oa0 : Zjj a0) : Tot (Zakk a0) (fun r => True) := by
 unfold Zakk
 refine tX (Inv := Zaed) (μ := Zag2) (m := (1000000, 0, 0, 0, 0, 0)) ?_ ?_
 ·dsimp only [Zaki, LT.den]
  refine tB (Z5s a0.When) (fun x1 h2 => ?_)
  replace h2 : (SzN x1) := h2
  refine tF (fun h3 => ?_) (fun h3 => ?_)
  ·exact tR trivial
  ·refine tD (fun h4 => ?_) (fun h4 => ?_)
   ·exact tR trivial
   ·refine tD (fun h5 => ?_) (fun h5 => ?_)
    ·exact tR trivial
    ·refine tB (Z06 a0.When) (fun x6 h7 => ?_)
     refine tO (fun h8 => ?_) (fun h8 => ?_)
     ·refine tN (fun h9 => ?_) (fun h9 => ?_)
      ·exact tR trivial
      ·exact tJ (Zuc a0 ⟨oa0, trivial⟩)
     ·exact tJ (Zuc a0 ⟨oa0, trivial⟩)
 ·intro s hs
  cases s with
  | L0 E0 => exact Zuc E0 hs
theorem Zud (a0 : Zi) (oa0 : Za8 a0) : Tot (Z4j a0) (fun r => True) := by
 unfold Z4j
 refine tZ ?_
 dsimp only [Z7w, LT.den]
 refine tB (Zgq a0 oa0) (fun x1 h2 => ?_)
 replace h2 : (x1 = true → 0 ≤ a0.Zone ∧ a0.Zone ≤ 5 ∧ 0 ≤ a0.Who ∧ a0.Who ≤ 2 ∧ 0 ≤ a0.Self ∧ a0.Self ≤ 2 ∧ 0 ≤ a0.Tap ∧ a0.Tap ≤ 2 ∧ 0 ≤ a0.Power.Kind ∧ a0.Power.Kind ≤ 3 ∧ 0 ≤ a0.Tough.Kind ∧ a0.Tough.Kind ≤ 3 ∧ 0 ≤ a0.Value.Kind ∧ a0.Value.Kind ≤ 3) := h2
 have eh2_0 := h2
 refine tF (fun h3 => ?_) (fun h3 => ?_)
 ·have h3_0 := eh2_0 h3
  exact tR trivial
 ·exact tR trivial
theorem Zahp (a0 : Za2) (oa0 : Zd0 a0) : Tot (Z4k a0) (fun r => True) := by
 unfold Z4k
 refine tZ ?_
 dsimp only [Z7y, LT.den]
 refine tN (fun h1 => ?_) (fun h1 => ?_)
 ·exact tR trivial
 ·refine tB (Zud a0.Filter oa0) (fun x2 h3 => ?_)
  refine tO (fun h4 => ?_) (fun h4 => ?_)
  ·exact tR trivial
  ·refine tE (fun h5 => ?_) (fun h5 => ?_)
   ·refine tE (fun h6 => ?_) (fun h6 => ?_)
    ·refine tE (fun h7 => ?_) (fun h7 => ?_)
     ·refine tE (fun h8 => ?_) (fun h8 => ?_)
      ·exact tR trivial
      ·refine tE (fun h9 => ?_) (fun h9 => ?_)
       ·exact tR trivial
       ·exact tR trivial
     ·exact tR trivial
    ·exact tR trivial
   ·refine tE (fun h10 => ?_) (fun h10 => ?_)
    ·refine tE (fun h11 => ?_) (fun h11 => ?_)
     ·refine tE (fun h12 => ?_) (fun h12 => ?_)
      ·exact tR trivial
      ·exact tR trivial
     ·exact tR trivial
    ·refine tE (fun h13 => ?_) (fun h13 => ?_)
     ·refine tE (fun h14 => ?_) (fun h14 => ?_)
      ·refine tD (fun h15 => ?_) (fun h15 => ?_)
       ·refine tD (fun h16 => ?_) (fun h16 => ?_)
        ·refine tD (fun h17 => ?_) (fun h17 => ?_)
         ·exact tR trivial
         ·exact tR trivial
        ·exact tR trivial
       ·exact tR trivial
      ·exact tR trivial
     ·exact tR trivial
theorem Zahq (a0 : Za2) (oa0 : Zd0 a0) : Tot (Z4l a0) (fun r => True) := by
 unfold Z4l
 refine tZ ?_
 dsimp only [Z70, LT.den]
 refine tN (fun h1 => ?_) (fun h1 => ?_)
 ·exact tR trivial
 ·refine tN (fun h2 => ?_) (fun h2 => ?_)
  ·exact tR trivial
  ·refine tE (fun h3 => ?_) (fun h3 => ?_)
   ·refine tD (fun h4 => ?_) (fun h4 => ?_)
    ·exact tR trivial
    ·exact tR trivial
   ·refine tE (fun h5 => ?_) (fun h5 => ?_)
    ·refine tD (fun h6 => ?_) (fun h6 => ?_)
     ·exact tR trivial
     ·exact tR trivial
    ·exact tR trivial
def Zvc : Zo5 → Prop
 | .L0 E0 v3 v4 => (Zd0 E0) ∧ True
 | .L1 E0 v3 => (Zd0 E0) ∧ True
 | .L2 E0 v3 v4 v109 => (Zd0 E0) ∧ True
def Zyo : Zo5 → M6
 | .L0 E0 v3 v4 => (0, 0, 0, 0, 0, 0)
 | .L1 E0 v3 => (0, 0, 0, 0, 0, 0)
 | .L2 E0 v3 v4 v109 => (0, 0, 0, 0, 0, 0)
theorem Zor (E0 : Za2) (v3 : Bool) (v4 : Bool) (v109 : Bool) (h : (Zd0 E0) ∧ True) : Tot (Zph E0 v3 v4 v109).den (Nx Zvc Zyo (0, 0, 0, 0, 0, 0) (fun r => True)) := by
 obtain ⟨ob30000000, _⟩ := h
 dsimp only [Zph, LT.den]
 refine tF (fun h1 => ?_) (fun h1 => ?_)
 ·refine tF (fun h2 => ?_) (fun h2 => ?_)
  ·refine tD (fun h3 => ?_) (fun h3 => ?_)
   ·refine tD (fun h4 => ?_) (fun h4 => ?_)
    ·exact tR trivial
    ·exact tR trivial
   ·exact tR trivial
  ·exact tR trivial
 ·exact tR trivial
theorem Zkv (E0 : Za2) (v3 : Bool) (h : (Zd0 E0) ∧ True) : Tot (Zlw E0 v3).den (Nx Zvc Zyo (0, 0, 0, 0, 0, 0) (fun r => True)) := by
 obtain ⟨ob30000000, _⟩ := h
 dsimp only [Zlw, LT.den]
 refine tE (fun h1 => ?_) (fun h1 => ?_)
 ·refine tB (Zud E0.Filter ob30000000) (fun x2 h3 => ?_)
  refine tF (fun h4 => ?_) (fun h4 => ?_)
  ·exact tR trivial
  ·refine tE (fun h5 => ?_) (fun h5 => ?_)
   ·exact tR trivial
   ·refine tE (fun h6 => ?_) (fun h6 => ?_)
    ·exact tR trivial
    ·exact tR trivial
 ·refine tE (fun h7 => ?_) (fun h7 => ?_)
  ·exact tR trivial
  ·refine tE (fun h8 => ?_) (fun h8 => ?_)
   ·exact tR trivial
   ·exact tR trivial
theorem Zos (E0 : Za2) (v3 : Bool) (v4 : Bool) (h : (Zd0 E0) ∧ True) : Tot (Zpi E0 v3 v4).den (Nx Zvc Zyo (0, 0, 0, 0, 0, 0) (fun r => True)) := by
 obtain ⟨ob30000000, _⟩ := h
 dsimp only [Zpi, LT.den]
 refine tE (fun h1 => ?_) (fun h1 => ?_)
 ·refine tN (fun h2 => ?_) (fun h2 => ?_)
  ·refine tN (fun h3 => ?_) (fun h3 => ?_)
   ·refine tN (fun h4 => ?_) (fun h4 => ?_)
    ·refine tN (fun h5 => ?_) (fun h5 => ?_)
     ·exact tR trivial
     ·exact tJ (Zkv E0 v3 ⟨ob30000000, trivial⟩)
    ·exact tJ (Zkv E0 v3 ⟨ob30000000, trivial⟩)
   ·exact tJ (Zkv E0 v3 ⟨ob30000000, trivial⟩)
  ·exact tJ (Zkv E0 v3 ⟨ob30000000, trivial⟩)
 ·refine tE (fun h6 => ?_) (fun h6 => ?_)
  ·refine tF (fun h7 => ?_) (fun h7 => ?_)
   ·refine tE (fun h8 => ?_) (fun h8 => ?_)
    ·refine tB (Zud E0.Filter ob30000000) (fun x9 h10 => ?_)
     exact tR trivial
    ·exact tR trivial
   ·exact tR trivial
  ·refine tE (fun h11 => ?_) (fun h11 => ?_)
   ·refine tE (fun h12 => ?_) (fun h12 => ?_)
    ·refine tD (fun h13 => ?_) (fun h13 => ?_)
     ·refine tD (fun h14 => ?_) (fun h14 => ?_)
      ·exact tR trivial
      ·exact tR trivial
     ·exact tR trivial
    ·refine tE (fun h15 => ?_) (fun h15 => ?_)
     ·refine tD (fun h16 => ?_) (fun h16 => ?_)
      ·refine tD (fun h17 => ?_) (fun h17 => ?_)
       ·exact tR trivial
       ·exact tR trivial
      ·exact tR trivial
     ·exact tR trivial
   ·refine tE (fun h18 => ?_) (fun h18 => ?_)
    ·exact tJ (Zor E0 v3 v4 (E0.On == 4) ⟨ob30000000, trivial⟩)
    ·refine tE (fun h19 => ?_) (fun h19 => ?_)
     ·exact tJ (Zor E0 v3 v4 (E0.On == 5) ⟨ob30000000, trivial⟩)
     ·exact tJ (Zor E0 v3 v4 (E0.On == 10) ⟨ob30000000, trivial⟩)
theorem Zapm (a0 : Za2) (oa0 : Zd0 a0) : Tot (Zakp a0) (fun r => True) := by
 unfold Zakp
 refine tX (Inv := Zvc) (μ := Zyo) (m := (1000000, 0, 0, 0, 0, 0)) ?_ ?_
 ·dsimp only [Zakn, LT.den]
  refine tE (fun h1 => ?_) (fun h1 => ?_)
  ·refine tB (Zahp a0 oa0) (fun x2 h3 => ?_)
   exact tR trivial
  ·refine tB (Zahq a0 oa0) (fun x4 h5 => ?_)
   refine tO (fun h6 => ?_) (fun h6 => ?_)
   ·exact tR trivial
   ·refine tE (fun h7 => ?_) (fun h7 => ?_)
    ·exact tJ (Zos a0 (Zx (Zp a0.Filter) (Zp (⟨0, 0, 0, 0, 0, 0, 0, ([] : List UInt8), 0, 0, (⟨0, 0⟩ : Zc), (⟨0, 0⟩ : Zc), (⟨0, 0⟩ : Zc)⟩ : Zi))) true ⟨oa0, trivial⟩)
    ·refine tE (fun h8 => ?_) (fun h8 => ?_)
     ·exact tJ (Zos a0 (Zx (Zp a0.Filter) (Zp (⟨0, 0, 0, 0, 0, 0, 0, ([] : List UInt8), 0, 0, (⟨0, 0⟩ : Zc), (⟨0, 0⟩ : Zc), (⟨0, 0⟩ : Zc)⟩ : Zi))) true ⟨oa0, trivial⟩)
     ·exact tJ (Zos a0 (Zx (Zp a0.Filter) (Zp (⟨0, 0, 0, 0, 0, 0, 0, ([] : List UInt8), 0, 0, (⟨0, 0⟩ : Zc), (⟨0, 0⟩ : Zc), (⟨0, 0⟩ : Zc)⟩ : Zi))) (a0.Do == 8) ⟨oa0, trivial⟩)
 ·intro s hs
  cases s with
  | L0 E0 v3 v4 => exact Zos E0 v3 v4 hs
  | L1 E0 v3 => exact Zkv E0 v3 hs
  | L2 E0 v3 v4 v109 => exact Zor E0 v3 v4 v109 hs
theorem Zal9 (a0 : Zaz) (oa0 : Zhh a0) : Tot (Z9r a0) (fun r => True) := by
 unfold Z9r
 refine tZ ?_
 dsimp only [Zack, LT.den]
 refine tO (fun h1 => ?_) (fun h1 => ?_)
 ·refine tF (fun h2 => ?_) (fun h2 => ?_)
  ·exact tR trivial
  ·exact tR trivial
 ·refine tB (Zgq a0.Filter oa0) (fun x3 h4 => ?_)
  replace h4 : (x3 = true → 0 ≤ a0.Filter.Zone ∧ a0.Filter.Zone ≤ 5 ∧ 0 ≤ a0.Filter.Who ∧ a0.Filter.Who ≤ 2 ∧ 0 ≤ a0.Filter.Self ∧ a0.Filter.Self ≤ 2 ∧ 0 ≤ a0.Filter.Tap ∧ a0.Filter.Tap ≤ 2 ∧ 0 ≤ a0.Filter.Power.Kind ∧ a0.Filter.Power.Kind ≤ 3 ∧ 0 ≤ a0.Filter.Tough.Kind ∧ a0.Filter.Tough.Kind ≤ 3 ∧ 0 ≤ a0.Filter.Value.Kind ∧ a0.Filter.Value.Kind ≤ 3) := h4
  have eh4_0 := h4
  refine tF (fun h5 => ?_) (fun h5 => ?_)
  ·have h5_0 := eh4_0 h5
   refine tE (fun h6 => ?_) (fun h6 => ?_)
   ·exact tR trivial
   ·refine tE (fun h7 => ?_) (fun h7 => ?_)
    ·exact tR trivial
    ·exact tR trivial
  ·exact tR trivial
def Z28 : Znv → Prop
 | .L0 v0 v3 => ((SzL 144 Zhh) v0) ∧ (0 ≤ v3)
def Zqw : Znv → M6
 | .L0 v0 v3 => (1, ((v0.length : Int) - v3).toNat, 1000000, 0, 0, 0)
theorem Zaan (v0 : (List Zaz)) (v3 : Int) (h : ((SzL 144 Zhh) v0) ∧ (0 ≤ v3)) : Tot (Zwc v0 v3).den (Nx Z28 Zqw (1, ((v0.length : Int) - v3).toNat, 1000000, 0, 0, 0) (fun r => True)) := by
 obtain ⟨ov0, cv3⟩ := h
 have lb_v0 : v0.length * 144 ≤ 140737488351232 := ov0.1
 dsimp only [Zwc, LT.den]
 have q1 : v0.length * 144 ≤ 140737488351232 := ov0.1
 refine tD (fun h2 => ?_) (fun h2 => ?_)
 ·refine tB (tI (by omega) (by omega)) (fun x3 h4 => ?_)
  have oh4 : Zhh x3 := ov0.2 x3 h4.1
  refine tB (Zal9 x3 oh4) (fun x5 h6 => ?_)
  refine tO (fun h7 => ?_) (fun h7 => ?_)
  ·exact tR trivial
  ·have q8 : -9223372036854775808 ≤ (v3 + 1) → (v3 + 1) < 9223372036854775808 → IntKind.wrap .i64 (v3 + 1) = (v3 + 1) := Zao _
   have q9 : -9223372036854775808 ≤ IntKind.wrap .i64 (v3 + 1) ∧ IntKind.wrap .i64 (v3 + 1) < 9223372036854775808 := Zap _
   exact tL ⟨ov0, cl⟩ (by unfold Zqw lt6; dsimp only; omega)
 ·exact tR trivial
theorem Zahr (a0 : (List Zaz)) (oa0 : (SzL 144 Zhh) a0) : Tot (Z4m a0) (fun r => True) := by
 unfold Z4m
 refine tX (Inv := Z28) (μ := Zqw) (m := (1000000, 0, 0, 0, 0, 0)) ?_ ?_
 ·have lb_a0 : a0.length * 144 ≤ 140737488351232 := oa0.1
  dsimp only [Z72, LT.den]
  exact tL ⟨oa0, cl⟩ (by unfold Zqw lt6; dsimp only; omega)
 ·intro s hs
  cases s with
  | L0 v0 v3 => exact Zaan v0 v3 hs
theorem Zama (a0 : Int) : Tot (Z9s a0) (fun r => (SzN r)) := by
 unfold Z9s
 refine tZ ?_
 dsimp only [Zacm, LT.den]
 refine tD (fun h1 => ?_) (fun h1 => ?_)
 ·exact tR (SzN.nil)
 ·refine tD (fun h2 => ?_) (fun h2 => ?_)
  ·exact tR (SzN.nil)
  ·have q3 : (SzL 16 SzN) ([([100, 97, 109, 97, 103, 101] : List UInt8), ([100, 101, 115, 116, 114, 111, 121] : List UInt8), ([109, 111, 118, 101] : List UInt8), ([100, 114, 97, 119] : List UInt8), ([100, 105, 115, 99, 97, 114, 100] : List UInt8), ([103, 97, 105, 110] : List UInt8), ([108, 111, 115, 101] : List UInt8), ([116, 97, 112] : List UInt8), ([117, 110, 116, 97, 112] : List UInt8), ([112, 117, 116] : List UInt8), ([116, 97, 107, 101] : List UInt8), ([99, 114, 101, 97, 116, 101] : List UInt8), ([109, 111, 100] : List UInt8), ([109, 97, 110, 97] : List UInt8), ([99, 111, 117, 110, 116, 101, 114] : List UInt8), ([99, 111, 112, 121] : List UInt8), ([98, 101, 99, 111, 109, 101] : List UInt8), ([115, 97, 99, 114, 105, 102, 105, 99, 101] : List UInt8), ([109, 105, 108, 108] : List UInt8), ([115, 99, 114, 121] : List UInt8), ([115, 101, 97, 114, 99, 104] : List UInt8), ([115, 104, 105, 101, 108, 100] : List UInt8), ([116, 117, 114, 110] : List UInt8), ([119, 105, 110] : List UInt8), ([100, 101, 102, 101, 97, 116] : List UInt8), ([118, 101, 110, 111, 109] : List UInt8)] : (List (List UInt8))) := ⟨by simp only [List.length_cons, List.length_nil]; omega, (mem_cons' (by unfold SzN; first | omega | (simp only [List.length_append, List.length_cons, List.length_nil]; omega)) (mem_cons' (by unfold SzN; first | omega | (simp only [List.length_append, List.length_cons, List.length_nil]; omega)) (mem_cons' (by unfold SzN; first | omega | (simp only [List.length_append, List.length_cons, List.length_nil]; omega)) (mem_cons' (by unfold SzN; first | omega | (simp only [List.length_append, List.length_cons, List.length_nil]; omega)) (mem_cons' (by unfold SzN; first | omega | (simp only [List.length_append, List.length_cons, List.length_nil]; omega)) (mem_cons' (by unfold SzN; first | omega | (simp only [List.length_append, List.length_cons, List.length_nil]; omega)) (mem_cons' (by unfold SzN; first | omega | (simp only [List.length_append, List.length_cons, List.length_nil]; omega)) (mem_cons' (by unfold SzN; first | omega | (simp only [List.length_append, List.length_cons, List.length_nil]; omega)) (mem_cons' (by unfold SzN; first | omega | (simp only [List.length_append, List.length_cons, List.length_nil]; omega)) (mem_cons' (by unfold SzN; first | omega | (simp only [List.length_append, List.length_cons, List.length_nil]; omega)) (mem_cons' (by unfold SzN; first | omega | (simp only [List.length_append, List.length_cons, List.length_nil]; omega)) (mem_cons' (by unfold SzN; first | omega | (simp only [List.length_append, List.length_cons, List.length_nil]; omega)) (mem_cons' (by unfold SzN; first | omega | (simp only [List.length_append, List.length_cons, List.length_nil]; omega)) (mem_cons' (by unfold SzN; first | omega | (simp only [List.length_append, List.length_cons, List.length_nil]; omega)) (mem_cons' (by unfold SzN; first | omega | (simp only [List.length_append, List.length_cons, List.length_nil]; omega)) (mem_cons' (by unfold SzN; first | omega | (simp only [List.length_append, List.length_cons, List.length_nil]; omega)) (mem_cons' (by unfold SzN; first | omega | (simp only [List.length_append, List.length_cons, List.length_nil]; omega)) (mem_cons' (by unfold SzN; first | omega | (simp only [List.length_append, List.length_cons, List.length_nil]; omega)) (mem_cons' (by unfold SzN; first | omega | (simp only [List.length_append, List.length_cons, List.length_nil]; omega)) (mem_cons' (by unfold SzN; first | omega | (simp only [List.length_append, List.length_cons, List.length_nil]; omega)) (mem_cons' (by unfold SzN; first | omega | (simp only [List.length_append, List.length_cons, List.length_nil]; omega)) (mem_cons' (by unfold SzN; first | omega | (simp only [List.length_append, List.length_cons, List.length_nil]; omega)) (mem_cons' (by unfold SzN; first | omega | (simp only [List.length_append, List.length_cons, List.length_nil]; omega)) (mem_cons' (by unfold SzN; first | omega | (simp only [List.length_append, List.length_cons, List.length_nil]; omega)) (mem_cons' (by unfold SzN; first | omega | (simp only [List.length_append, List.length_cons, List.length_nil]; omega)) (mem_cons' (by unfold SzN; first | omega | (simp only [List.length_append, List.length_cons, List.length_nil]; omega)) (fun _ h => by cases h)))))))))))))))))))))))))))⟩
   have lq3 : ([([100, 97, 109, 97, 103, 101] : List UInt8), ([100, 101, 115, 116, 114, 111, 121] : List UInt8), ([109, 111, 118, 101] : List UInt8), ([100, 114, 97, 119] : List UInt8), ([100, 105, 115, 99, 97, 114, 100] : List UInt8), ([103, 97, 105, 110] : List UInt8), ([108, 111, 115, 101] : List UInt8), ([116, 97, 112] : List UInt8), ([117, 110, 116, 97, 112] : List UInt8), ([112, 117, 116] : List UInt8), ([116, 97, 107, 101] : List UInt8), ([99, 114, 101, 97, 116, 101] : List UInt8), ([109, 111, 100] : List UInt8), ([109, 97, 110, 97] : List UInt8), ([99, 111, 117, 110, 116, 101, 114] : List UInt8), ([99, 111, 112, 121] : List UInt8), ([98, 101, 99, 111, 109, 101] : List UInt8), ([115, 97, 99, 114, 105, 102, 105, 99, 101] : List UInt8), ([109, 105, 108, 108] : List UInt8), ([115, 99, 114, 121] : List UInt8), ([115, 101, 97, 114, 99, 104] : List UInt8), ([115, 104, 105, 101, 108, 100] : List UInt8), ([116, 117, 114, 110] : List UInt8), ([119, 105, 110] : List UInt8), ([100, 101, 102, 101, 97, 116] : List UInt8), ([118, 101, 110, 111, 109] : List UInt8)] : (List (List UInt8))).length = 26 := rfl
   have q4 : -9223372036854775808 ≤ (a0 - 1) → (a0 - 1) < 9223372036854775808 → IntKind.wrap .i64 (a0 - 1) = (a0 - 1) := Zao _
   have q5 : -9223372036854775808 ≤ IntKind.wrap .i64 (a0 - 1) ∧ IntKind.wrap .i64 (a0 - 1) < 9223372036854775808 := Zap _
   refine tB (tI (by omega) (by omega)) (fun x6 h7 => ?_)
   have oh7 : SzN x6 := q3.2 x6 h7.1
   exact tR oh7
def Zxa : Zm3 → Prop
 | .L0 v3 v4 => True
 | .L1 v3 v14 => True
def Zz8 : Zm3 → M6
 | .L0 v3 v4 => (0, 0, 0, 0, 0, 0)
 | .L1 v3 v14 => (0, 0, 0, 0, 0, 0)
theorem Zqx (v3 : Int) (v14 : Bool) (h : True) : Tot (Znw v3 v14).den (Nx Zxa Zz8 (0, 0, 0, 0, 0, 0) (fun r => (SzN r))) := by
 dsimp only [Znw, LT.den]
 refine tF (fun h1 => ?_) (fun h1 => ?_)
 ·exact tR (by unfold SzN; first | omega | (simp only [List.length_append, List.length_cons, List.length_nil]; omega))
 ·refine tE (fun h2 => ?_) (fun h2 => ?_)
  ·exact tR (by unfold SzN; first | omega | (simp only [List.length_append, List.length_cons, List.length_nil]; omega))
  ·refine tE (fun h3 => ?_) (fun h3 => ?_)
   ·exact tR (by unfold SzN; first | omega | (simp only [List.length_append, List.length_cons, List.length_nil]; omega))
   ·refine tE (fun h4 => ?_) (fun h4 => ?_)
    ·exact tR (by unfold SzN; first | omega | (simp only [List.length_append, List.length_cons, List.length_nil]; omega))
    ·refine tE (fun h5 => ?_) (fun h5 => ?_)
     ·exact tR (by unfold SzN; first | omega | (simp only [List.length_append, List.length_cons, List.length_nil]; omega))
     ·refine tE (fun h6 => ?_) (fun h6 => ?_)
      ·exact tR (by unfold SzN; first | omega | (simp only [List.length_append, List.length_cons, List.length_nil]; omega))
      ·refine tE (fun h7 => ?_) (fun h7 => ?_)
       ·exact tR (by unfold SzN; first | omega | (simp only [List.length_append, List.length_cons, List.length_nil]; omega))
       ·refine tE (fun h8 => ?_) (fun h8 => ?_)
        ·exact tR (SzN.nil)
        ·refine tE (fun h9 => ?_) (fun h9 => ?_)
         ·exact tR (SzN.nil)
         ·exact tR (by unfold SzN; first | omega | (simp only [List.length_append, List.length_cons, List.length_nil]; omega))
theorem Zfq (v3 : Int) (v4 : Bool) (h : True) : Tot (Zgg v3 v4).den (Nx Zxa Zz8 (0, 0, 0, 0, 0, 0) (fun r => (SzN r))) := by
 dsimp only [Zgg, LT.den]
 refine tF (fun h1 => ?_) (fun h1 => ?_)
 ·exact tR (by unfold SzN; first | omega | (simp only [List.length_append, List.length_cons, List.length_nil]; omega))
 ·refine tE (fun h2 => ?_) (fun h2 => ?_)
  ·exact tR (by unfold SzN; first | omega | (simp only [List.length_append, List.length_cons, List.length_nil]; omega))
  ·refine tE (fun h3 => ?_) (fun h3 => ?_)
   ·exact tJ (Zqx v3 (v3 == 10) trivial)
   ·exact tJ (Zqx v3 (v3 == 11) trivial)
theorem Zamb (a0 : Int) : Tot (Z9t a0) (fun r => (SzN r)) := by
 unfold Z9t
 refine tX (Inv := Zxa) (μ := Zz8) (m := (1000000, 0, 0, 0, 0, 0)) ?_ ?_
 ·dsimp only [Zaco, LT.den]
  refine tE (fun h1 => ?_) (fun h1 => ?_)
  ·exact tJ (Zfq a0 (a0 == 2) trivial)
  ·refine tE (fun h2 => ?_) (fun h2 => ?_)
   ·exact tJ (Zfq a0 (a0 == 8) trivial)
   ·refine tE (fun h3 => ?_) (fun h3 => ?_)
    ·exact tJ (Zfq a0 (a0 == 9) trivial)
    ·refine tE (fun h4 => ?_) (fun h4 => ?_)
     ·exact tJ (Zfq a0 (a0 == 15) trivial)
     ·refine tE (fun h5 => ?_) (fun h5 => ?_)
      ·exact tJ (Zfq a0 (a0 == 16) trivial)
      ·refine tE (fun h6 => ?_) (fun h6 => ?_)
       ·exact tJ (Zfq a0 (a0 == 17) trivial)
       ·exact tJ (Zfq a0 (a0 == 25) trivial)
 ·intro s hs
  cases s with
  | L0 v3 v4 => exact Zfq v3 v4 hs
  | L1 v3 v14 => exact Zqx v3 v14 hs
def Z5t : Zp9 → Prop
 | .L0 v1 v5 v6 => (SzT v5) ∧ (0 ≤ v6)
def Zr6 : Zp9 → M6
 | .L0 v1 v5 v6 => (1, ((v5.length : Int) - v6).toNat, 1000000, 0, 0, 0)
theorem Zaee (v1 : Int) (v5 : (List UInt8)) (v6 : Int) (h : (SzT v5) ∧ (0 ≤ v6)) : Tot (Zze v1 v5 v6).den (Nx Z5t Zr6 (1, ((v5.length : Int) - v6).toNat, 1000000, 0, 0, 0) (fun r => True)) := by
 obtain ⟨ov5, cv6⟩ := h
 have lb_v5 : v5.length ≤ 562949953421312 := ov5
 dsimp only [Zze, LT.den]
 have q1 : v5.length ≤ 562949953421312 := ov5
 refine tD (fun h2 => ?_) (fun h2 => ?_)
 ·refine tB (tI (by omega) (by omega)) (fun x3 h4 => ?_)
  refine tE (fun h5 => ?_) (fun h5 => ?_)
  ·exact tR trivial
  ·have q6 : -9223372036854775808 ≤ (v6 + 1) → (v6 + 1) < 9223372036854775808 → IntKind.wrap .i64 (v6 + 1) = (v6 + 1) := Zao _
   have q7 : -9223372036854775808 ≤ IntKind.wrap .i64 (v6 + 1) ∧ IntKind.wrap .i64 (v6 + 1) < 9223372036854775808 := Zap _
   exact tL ⟨ov5, cl⟩ (by unfold Zr6 lt6; dsimp only; omega)
 ·exact tR trivial
theorem Zhn (a0 : Int) (a1 : Int) : Tot (Z9u a0 a1) (fun r => True) := by
 unfold Z9u
 refine tX (Inv := Z5t) (μ := Zr6) (m := (1000000, 0, 0, 0, 0, 0)) ?_ ?_
 ·dsimp only [Zacq, LT.den]
  refine tB (Zamb a0) (fun x1 h2 => ?_)
  replace h2 : (SzN x1) := h2
  exact tL ⟨(SzN.t h2), cl⟩ (by unfold Zr6 lt6; dsimp only; omega)
 ·intro s hs
  cases s with
  | L0 v1 v5 v6 => exact Zaee v1 v5 v6 hs
theorem Zaao (a0 : Int) : Tot (Zwd a0) (fun r => True) := by
 unfold Zwd
 refine tZ ?_
 dsimp only [Z0q, LT.den]
 refine tE (fun h1 => ?_) (fun h1 => ?_)
 ·exact tR trivial
 ·exact tR trivial
def Z2f : Zre → Prop
 | .L0 v1 E0 => (Zkd E0) ∧ True
 | .L1 E0 => (Zkd E0) ∧ True
def Z5u : Zre → M6
 | .L0 v1 E0 => (0, 0, 0, 0, 0, 0)
 | .L1 E0 => (0, 0, 0, 0, 0, 0)
theorem Zue (E0 : Zeq) (h : (Zkd E0) ∧ True) : Tot (Zsp E0).den (Nx Z2f Z5u (0, 0, 0, 0, 0, 0) (fun r => True)) := by
 obtain ⟨ob30000000, _⟩ := h
 dsimp only [Zsp, LT.den]
 refine tE (fun h1 => ?_) (fun h1 => ?_)
 ·refine tB (Zgq E0.Filter ob30000000) (fun x2 h3 => ?_)
  replace h3 : (x2 = true → 0 ≤ E0.Filter.Zone ∧ E0.Filter.Zone ≤ 5 ∧ 0 ≤ E0.Filter.Who ∧ E0.Filter.Who ≤ 2 ∧ 0 ≤ E0.Filter.Self ∧ E0.Filter.Self ≤ 2 ∧ 0 ≤ E0.Filter.Tap ∧ E0.Filter.Tap ≤ 2 ∧ 0 ≤ E0.Filter.Power.Kind ∧ E0.Filter.Power.Kind ≤ 3 ∧ 0 ≤ E0.Filter.Tough.Kind ∧ E0.Filter.Tough.Kind ≤ 3 ∧ 0 ≤ E0.Filter.Value.Kind ∧ E0.Filter.Value.Kind ≤ 3) := h3
  have eh3_0 := h3
  exact tR trivial
 ·exact tR trivial
theorem Zuf (v1 : Int) (E0 : Zeq) (h : (Zkd E0) ∧ True) : Tot (Zsq v1 E0).den (Nx Z2f Z5u (0, 0, 0, 0, 0, 0) (fun r => True)) := by
 obtain ⟨ob30000000, _⟩ := h
 dsimp only [Zsq, LT.den]
 refine tD (fun h1 => ?_) (fun h1 => ?_)
 ·exact tR trivial
 ·refine tD (fun h2 => ?_) (fun h2 => ?_)
  ·exact tR trivial
  ·refine tB (Zaao E0.Kind) (fun x3 h4 => ?_)
   refine tF (fun h5 => ?_) (fun h5 => ?_)
   ·refine tD (fun h6 => ?_) (fun h6 => ?_)
    ·exact tR trivial
    ·refine tD (fun h7 => ?_) (fun h7 => ?_)
     ·exact tR trivial
     ·exact tJ (Zue E0 ⟨ob30000000, trivial⟩)
   ·refine tN (fun h8 => ?_) (fun h8 => ?_)
    ·exact tR trivial
    ·exact tJ (Zue E0 ⟨ob30000000, trivial⟩)
theorem Zapn (a0 : Zeq) (a1 : Int) (oa0 : Zkd a0) : Tot (Zakt a0 a1) (fun r => True) := by
 unfold Zakt
 refine tX (Inv := Z2f) (μ := Z5u) (m := (1000000, 0, 0, 0, 0, 0)) ?_ ?_
 ·dsimp only [Zakr, LT.den]
  refine tD (fun h1 => ?_) (fun h1 => ?_)
  ·exact tJ (Zuf 4 a0 ⟨oa0, trivial⟩)
  ·exact tJ (Zuf a1 a0 ⟨oa0, trivial⟩)
 ·intro s hs
  cases s with
  | L0 v1 E0 => exact Zuf v1 E0 hs
  | L1 E0 => exact Zue E0 hs
theorem Z5v (a0 : Int) : Tot (Z9v a0) (fun r => (SzN r)) := by
 unfold Z9v
 refine tZ ?_
 dsimp only [Zact, LT.den]
 refine tE (fun h1 => ?_) (fun h1 => ?_)
 ·exact tR (by unfold SzN; first | omega | (simp only [List.length_append, List.length_cons, List.length_nil]; omega))
 ·refine tE (fun h2 => ?_) (fun h2 => ?_)
  ·exact tR (by unfold SzN; first | omega | (simp only [List.length_append, List.length_cons, List.length_nil]; omega))
  ·refine tE (fun h3 => ?_) (fun h3 => ?_)
   ·exact tR (by unfold SzN; first | omega | (simp only [List.length_append, List.length_cons, List.length_nil]; omega))
   ·exact tR (SzN.nil)
theorem Zapo (a0 : Zcf) (oa0 : Zt5 a0) : Tot (Zakw a0) (fun r => True) := by
 unfold Zakw
 refine tZ ?_
 dsimp only [Zaku, LT.den]
 refine tE (fun h1 => ?_) (fun h1 => ?_)
 ·refine tD (fun h2 => ?_) (fun h2 => ?_)
  ·exact tR trivial
  ·refine tD (fun h3 => ?_) (fun h3 => ?_)
   ·exact tR trivial
   ·refine tD (fun h4 => ?_) (fun h4 => ?_)
    ·refine tD (fun h5 => ?_) (fun h5 => ?_)
     ·exact tR trivial
     ·exact tR trivial
    ·exact tR trivial
 ·refine tE (fun h6 => ?_) (fun h6 => ?_)
  ·refine tD (fun h7 => ?_) (fun h7 => ?_)
   ·exact tR trivial
   ·refine tD (fun h8 => ?_) (fun h8 => ?_)
    ·exact tR trivial
    ·refine tB (Zgq a0.Filter oa0) (fun x9 h10 => ?_)
     replace h10 : (x9 = true → 0 ≤ a0.Filter.Zone ∧ a0.Filter.Zone ≤ 5 ∧ 0 ≤ a0.Filter.Who ∧ a0.Filter.Who ≤ 2 ∧ 0 ≤ a0.Filter.Self ∧ a0.Filter.Self ≤ 2 ∧ 0 ≤ a0.Filter.Tap ∧ a0.Filter.Tap ≤ 2 ∧ 0 ≤ a0.Filter.Power.Kind ∧ a0.Filter.Power.Kind ≤ 3 ∧ 0 ≤ a0.Filter.Tough.Kind ∧ a0.Filter.Tough.Kind ≤ 3 ∧ 0 ≤ a0.Filter.Value.Kind ∧ a0.Filter.Value.Kind ≤ 3) := h10
     have eh10_0 := h10
     refine tO (fun h11 => ?_) (fun h11 => ?_)
     ·exact tR trivial
     ·have h11_0 := eh10_0 h11
      refine tD (fun h12 => ?_) (fun h12 => ?_)
      ·refine tD (fun h13 => ?_) (fun h13 => ?_)
       ·exact tR trivial
       ·exact tR trivial
      ·exact tR trivial
  ·refine tE (fun h14 => ?_) (fun h14 => ?_)
   ·refine tB (Z5v a0.Counter) (fun x15 h16 => ?_)
    replace h16 : (SzN x15) := h16
    refine tF (fun h17 => ?_) (fun h17 => ?_)
    ·exact tR trivial
    ·refine tD (fun h18 => ?_) (fun h18 => ?_)
     ·refine tD (fun h19 => ?_) (fun h19 => ?_)
      ·exact tR trivial
      ·exact tR trivial
     ·exact tR trivial
   ·refine tD (fun h20 => ?_) (fun h20 => ?_)
    ·refine tD (fun h21 => ?_) (fun h21 => ?_)
     ·exact tR trivial
     ·exact tR trivial
    ·exact tR trivial
theorem Zamc (a0 : (List Zj)) (oa0 : (SzL 176 Za1) a0) : Tot (Z9w a0) (fun r => True) := by
 unfold Z9w
 refine tZ ?_
 have lb_a0 : a0.length * 176 ≤ 140737488351232 := oa0.1
 dsimp only [Zacv, LT.den]
 refine tB (Zpb a0 oa0) (fun x1 h2 => ?_)
 replace h2 : (x1.length ≤ 4611686018427387904) := h2
 have eh2_0 := h2
 try simp only [List.length_nil, List.length_cons, Nat.zero_add] at eh2_0
 exact tR trivial
def Z5w : Zqa → Prop
 | .L0 E0 E1 E2 v4 => (0 ≤ v4) ∧ True
def Zr7 : Zqa → M6
 | .L0 E0 E1 E2 v4 => (1, (5 - v4).toNat, 1000000, 0, 0, 0)
theorem Zaef (E0 : (A6 Int)) (E1 : Zay) (E2 : Zay) (v4 : Int) (h : (0 ≤ v4) ∧ True) : Tot (Zzf E0 E1 E2 v4).den (Nx Z5w Zr7 (1, (5 - v4).toNat, 1000000, 0, 0, 0) (fun r => True)) := by
 obtain ⟨cv4, _⟩ := h
 dsimp only [Zzf, LT.den]
 refine tD (fun h1 => ?_) (fun h1 => ?_)
 ·have q2 : -9223372036854775808 ≤ (v4 + 1) → (v4 + 1) < 9223372036854775808 → IntKind.wrap .i64 (v4 + 1) = (v4 + 1) := Zao _
  have q3 : -9223372036854775808 ≤ IntKind.wrap .i64 (v4 + 1) ∧ IntKind.wrap .i64 (v4 + 1) < 9223372036854775808 := Zap _
  refine tB (tI (by omega) (by have e : (A6.list E0).length = 6 := rfl; omega)) (fun x4 h5 => ?_)
  refine tB (tI (by omega) (by have e : (A5.list E2.Color).length = 5 := rfl; omega)) (fun x6 h7 => ?_)
  refine tB (Tot.setA5 (by omega) (by omega)) (fun x8 h9 => ?_)
  exact tL ⟨cl, trivial⟩ (by unfold Zr7 lt6; dsimp only; omega)
 ·exact tR trivial
theorem Zamd (a0 : (A6 Int)) : Tot (Z9x a0) (fun r => True) := by
 unfold Z9x
 refine tX (Inv := Z5w) (μ := Zr7) (m := (1000000, 0, 0, 0, 0, 0)) ?_ ?_
 ·dsimp only [Zacx, LT.den]
  refine tB (tI (by omega) (by have e : (A6.list a0).length = 6 := rfl; omega)) (fun x1 h2 => ?_)
  exact tL ⟨cl, trivial⟩ (by unfold Zr7 lt6; dsimp only; omega)
 ·intro s hs
  cases s with
  | L0 E0 E1 E2 v4 => exact Zaef E0 E1 E2 v4 hs
def Zqy : Zjz → Prop
 | .L0 E0 v3 v4 => (0 ≤ v4) ∧ (E0.X ≤ 2) ∧ (∀ n, n ∈ A5.list E0.Color → n ≤ 9) ∧ (v3.length ≤ v4.toNat) ∧ (v4 ≤ 2)
 | .L1 E0 v3 v5 => (0 ≤ v5) ∧ (v3.length ≤ 200 + 200 * v5.toNat) ∧ (∀ n, n ∈ A5.list E0.Color → n ≤ 9) ∧ (v5 ≤ 5)
 | .L2 E0 v3 v5 v6 => (0 ≤ v5) ∧ (0 ≤ v6) ∧ (v5 < 5) ∧ (v3.length ≤ 200 + 200 * v5.toNat + v6.toNat) ∧ (∀ n, n ∈ A5.list E0.Color → n ≤ 9) ∧ (v5 < 5) ∧ (v6 ≤ 9)
def Zfz : Zjz → M6
 | .L0 E0 v3 v4 => (3, (E0.X - v4).toNat, 1000000, 0, 0, 0)
 | .L1 E0 v3 v5 => (1, (5 - v5).toNat, 1000000, 0, 0, 0)
 | .L2 E0 v3 v5 v6 => (1, (5 - v5).toNat, 1, (9 - v6).toNat, 1000000, 0)
theorem Zaeg (E0 : Zay) (v3 : (List UInt8)) (v4 : Int) (h : (0 ≤ v4) ∧ (E0.X ≤ 2) ∧ (∀ n, n ∈ A5.list E0.Color → n ≤ 9) ∧ (v3.length ≤ v4.toNat) ∧ (v4 ≤ 2)) : Tot (Zzg E0 v3 v4).den (Nx Zqy Zfz (3, (E0.X - v4).toNat, 1000000, 0, 0, 0) (fun r => (SzT r))) := by
 obtain ⟨cv4, i0, i1, i2, i3⟩ := h
 dsimp only [Zzg, LT.den]
 refine tD (fun h1 => ?_) (fun h1 => ?_)
 ·refine tB (tK (by first | (simp only [List.length_append, List.length_cons, List.length_nil]; omega) | omega)) (fun x2 h3 => ?_)
  have q4 : -9223372036854775808 ≤ (v4 + 1) → (v4 + 1) < 9223372036854775808 → IntKind.wrap .i64 (v4 + 1) = (v4 + 1) := Zao _
  have q5 : -9223372036854775808 ≤ IntKind.wrap .i64 (v4 + 1) ∧ IntKind.wrap .i64 (v4 + 1) < 9223372036854775808 := Zap _
  exact tL ⟨cl, cl, cl, cl, cl⟩ (by unfold Zfz lt6; dsimp only; omega)
 ·refine tN (fun h6 => ?_) (fun h6 => ?_)
  ·refine tB (Zjk E0.Generic) (fun x7 h8 => ?_)
   replace h8 : (SzN x7) := h8
   have q9 : x7.length ≤ 100 := h8
   refine tB (tK (by first | (simp only [List.length_append, List.length_cons, List.length_nil]; omega) | omega)) (fun x10 h11 => ?_)
   exact tL ⟨cl, cl, cl, cl⟩ (by unfold Zfz lt6; dsimp only; omega)
  ·exact tL ⟨cl, cl, cl, cl⟩ (by unfold Zfz lt6; dsimp only; omega)
theorem Zaeh (E0 : Zay) (v3 : (List UInt8)) (v5 : Int) (h : (0 ≤ v5) ∧ (v3.length ≤ 200 + 200 * v5.toNat) ∧ (∀ n, n ∈ A5.list E0.Color → n ≤ 9) ∧ (v5 ≤ 5)) : Tot (Zzh E0 v3 v5).den (Nx Zqy Zfz (1, (5 - v5).toNat, 1000000, 0, 0, 0) (fun r => (SzT r))) := by
 obtain ⟨cv5, i0, i1, i2⟩ := h
 dsimp only [Zzh, LT.den]
 refine tD (fun h1 => ?_) (fun h1 => ?_)
 ·exact tL ⟨cl, cl, cl, cl, cl, cl, cl⟩ (by unfold Zfz lt6; dsimp only; omega)
 ·refine tF (fun h2 => ?_) (fun h2 => ?_)
  ·exact tR (by unfold SzT; first | omega | (simp only [List.length_append, List.length_cons, List.length_nil]; omega))
  ·exact tR (by unfold SzT; first | omega | (simp only [List.length_append, List.length_cons, List.length_nil]; omega))
theorem Zaei (E0 : Zay) (v3 : (List UInt8)) (v5 : Int) (v6 : Int) (h : (0 ≤ v5) ∧ (0 ≤ v6) ∧ (v5 < 5) ∧ (v3.length ≤ 200 + 200 * v5.toNat + v6.toNat) ∧ (∀ n, n ∈ A5.list E0.Color → n ≤ 9) ∧ (v5 < 5) ∧ (v6 ≤ 9)) : Tot (Zzi E0 v3 v5 v6).den (Nx Zqy Zfz (1, (5 - v5).toNat, 1, (9 - v6).toNat, 1000000, 0) (fun r => (SzT r))) := by
 obtain ⟨cv5, cv6, bd2, i0, i1, i2, i3⟩ := h
 dsimp only [Zzi, LT.den]
 refine tB (tI (by omega) (by have e : (A5.list E0.Color).length = 5 := rfl; omega)) (fun x1 h2 => ?_)
 have ph2 := i1 x1 h2.1
 refine tD (fun h3 => ?_) (fun h3 => ?_)
 ·have q4 : -9223372036854775808 ≤ (v5 + 1) → (v5 + 1) < 9223372036854775808 → IntKind.wrap .i64 (v5 + 1) = (v5 + 1) := Zao _
  have q5 : -9223372036854775808 ≤ IntKind.wrap .i64 (v5 + 1) ∧ IntKind.wrap .i64 (v5 + 1) < 9223372036854775808 := Zap _
  refine tB ((by  exact Tot.slice (by omega) (by omega) (by first | omega | (simp only [List.length_cons, List.length_nil]; omega)))) (fun x6 h7 => ?_)
  have lh7 := h7.1
  refine tB (tK (by first | (simp only [List.length_append, List.length_cons, List.length_nil]; omega) | omega)) (fun x8 h9 => ?_)
  have q10 : -9223372036854775808 ≤ (v6 + 1) → (v6 + 1) < 9223372036854775808 → IntKind.wrap .i64 (v6 + 1) = (v6 + 1) := Zao _
  have q11 : -9223372036854775808 ≤ IntKind.wrap .i64 (v6 + 1) ∧ IntKind.wrap .i64 (v6 + 1) < 9223372036854775808 := Zap _
  exact tL ⟨cl, cl, cl, cl, cl, cl, cl⟩ (by unfold Zfz lt6; dsimp only; omega)
 ·have q12 : -9223372036854775808 ≤ (v5 + 1) → (v5 + 1) < 9223372036854775808 → IntKind.wrap .i64 (v5 + 1) = (v5 + 1) := Zao _
  have q13 : -9223372036854775808 ≤ IntKind.wrap .i64 (v5 + 1) ∧ IntKind.wrap .i64 (v5 + 1) < 9223372036854775808 := Zap _
  exact tL ⟨cl, cl, cl, cl⟩ (by unfold Zfz lt6; dsimp only; omega)
theorem Zame (a0 : Zay) : Tot (Z9y a0) (fun r => (SzT r)) := by
 unfold Z9y
 refine tX (Inv := Zqy) (μ := Zfz) (m := (1000000, 0, 0, 0, 0, 0)) ?_ ?_
 ·dsimp only [Zacz, LT.den]
  refine tB (Z2e a0) (fun x1 h2 => ?_)
  replace h2 : (x1 = true → a0.X ≤ 2) ∧ (x1 = true → ∀ n, n ∈ A5.list a0.Color → n ≤ 9) := h2
  have eh2_0 := h2.1
  have eh2_1 := h2.2
  refine tO (fun h3 => ?_) (fun h3 => ?_)
  ·exact tR (SzT.nil)
  ·have h3_0 := eh2_0 h3
   have h3_1 := eh2_1 h3
   exact tL ⟨cl, cl, cl, cl, cl⟩ (by unfold Zfz lt6; dsimp only; omega)
 ·intro s hs
  cases s with
  | L0 E0 v3 v4 => exact Zaeg E0 v3 v4 hs
  | L1 E0 v3 v5 => exact Zaeh E0 v3 v5 hs
  | L2 E0 v3 v5 v6 => exact Zaei E0 v3 v5 v6 hs
theorem Zaap (a0 : (A6 Int)) : Tot (Zwe a0) (fun r => (SzT r)) := by
 unfold Zwe
 refine tZ ?_
 dsimp only [Z0s, LT.den]
 refine tB (Zamd a0) (fun x1 h2 => ?_)
 refine tB (Zame x1) (fun x3 h4 => ?_)
 replace h4 : (SzT x3) := h4
 exact tR h4
theorem Zaf5 (a0 : Int) (a1 : Zi) (oa1 : Za8 a1) : Tot (Z1s a0 a1) (fun r => True) := by
 unfold Z1s
 refine tZ ?_
 dsimp only [Z4n, LT.den]
 refine tE (fun h1 => ?_) (fun h1 => ?_)
 ·refine tB (Zgq a1 oa1) (fun x2 h3 => ?_)
  replace h3 : (x2 = true → 0 ≤ a1.Zone ∧ a1.Zone ≤ 5 ∧ 0 ≤ a1.Who ∧ a1.Who ≤ 2 ∧ 0 ≤ a1.Self ∧ a1.Self ≤ 2 ∧ 0 ≤ a1.Tap ∧ a1.Tap ≤ 2 ∧ 0 ≤ a1.Power.Kind ∧ a1.Power.Kind ≤ 3 ∧ 0 ≤ a1.Tough.Kind ∧ a1.Tough.Kind ≤ 3 ∧ 0 ≤ a1.Value.Kind ∧ a1.Value.Kind ≤ 3) := h3
  have eh3_0 := h3
  refine tF (fun h4 => ?_) (fun h4 => ?_)
  ·have h4_0 := eh3_0 h4
   exact tR trivial
  ·exact tR trivial
 ·refine tB (Zgq a1 oa1) (fun x5 h6 => ?_)
  replace h6 : (x5 = true → 0 ≤ a1.Zone ∧ a1.Zone ≤ 5 ∧ 0 ≤ a1.Who ∧ a1.Who ≤ 2 ∧ 0 ≤ a1.Self ∧ a1.Self ≤ 2 ∧ 0 ≤ a1.Tap ∧ a1.Tap ≤ 2 ∧ 0 ≤ a1.Power.Kind ∧ a1.Power.Kind ≤ 3 ∧ 0 ≤ a1.Tough.Kind ∧ a1.Tough.Kind ≤ 3 ∧ 0 ≤ a1.Value.Kind ∧ a1.Value.Kind ≤ 3) := h6
  have eh6_0 := h6
  refine tF (fun h7 => ?_) (fun h7 => ?_)
  ·have h7_0 := eh6_0 h7
   exact tR trivial
  ·exact tR trivial
def Zh3 : Zhu → Prop
 | .L0 E0 v5 => (Z9 E0) ∧ True
 | .L1 E0 v5 v6 => (Z9 E0) ∧ True
 | .L2 E0 v5 v6 v7 => (Z9 E0) ∧ True
 | .L3 E0 v5 v6 v7 v8 => (Z9 E0) ∧ True
 | .L4 E0 v5 v6 v7 v8 v9 => (Z9 E0) ∧ True
 | .L5 E0 v5 v6 v7 v8 v9 v10 => (Z9 E0) ∧ True
 | .L6 E0 v5 v6 v7 v8 v9 v10 v11 => (Z9 E0) ∧ True
 | .L7 v5 v6 v7 v8 v9 v10 v11 v12 => True
def Zix : Zhu → M6
 | .L0 E0 v5 => (0, 0, 0, 0, 0, 0)
 | .L1 E0 v5 v6 => (0, 0, 0, 0, 0, 0)
 | .L2 E0 v5 v6 v7 => (0, 0, 0, 0, 0, 0)
 | .L3 E0 v5 v6 v7 v8 => (0, 0, 0, 0, 0, 0)
 | .L4 E0 v5 v6 v7 v8 v9 => (0, 0, 0, 0, 0, 0)
 | .L5 E0 v5 v6 v7 v8 v9 v10 => (0, 0, 0, 0, 0, 0)
 | .L6 E0 v5 v6 v7 v8 v9 v10 v11 => (0, 0, 0, 0, 0, 0)
 | .L7 v5 v6 v7 v8 v9 v10 v11 v12 => (0, 0, 0, 0, 0, 0)
theorem Zug (v5 : Bool) (v6 : Bool) (v7 : Bool) (v8 : Bool) (v9 : Bool) (v10 : Bool) (v11 : Bool) (v12 : Bool) (h : True) : Tot (Zsr v5 v6 v7 v8 v9 v10 v11 v12).den (Nx Zh3 Zix (0, 0, 0, 0, 0, 0) (fun r => True)) := by
 dsimp only [Zsr, LT.den]
 refine tF (fun h1 => ?_) (fun h1 => ?_)
 ·refine tF (fun h2 => ?_) (fun h2 => ?_)
  ·refine tF (fun h3 => ?_) (fun h3 => ?_)
   ·refine tF (fun h4 => ?_) (fun h4 => ?_)
    ·refine tF (fun h5 => ?_) (fun h5 => ?_)
     ·refine tF (fun h6 => ?_) (fun h6 => ?_)
      ·refine tF (fun h7 => ?_) (fun h7 => ?_)
       ·exact tR trivial
       ·exact tR trivial
      ·exact tR trivial
     ·exact tR trivial
    ·exact tR trivial
   ·exact tR trivial
  ·exact tR trivial
 ·exact tR trivial
theorem Zot (E0 : Zm) (v5 : Bool) (v6 : Bool) (v7 : Bool) (v8 : Bool) (v9 : Bool) (v10 : Bool) (v11 : Bool) (h : (Z9 E0) ∧ True) : Tot (Zpj E0 v5 v6 v7 v8 v9 v10 v11).den (Nx Zh3 Zix (0, 0, 0, 0, 0, 0) (fun r => True)) := by
 obtain ⟨ob30000000, _⟩ := h
 dsimp only [Zpj, LT.den]
 refine tB (Zhn E0.Op 102) (fun x1 h2 => ?_)
 refine tF (fun h3 => ?_) (fun h3 => ?_)
 ·refine tB (Zaf5 E0.Op E0.Filter ob30000000.2.2.2.1) (fun x4 h5 => ?_)
  exact tJ (Zug v5 v6 v7 v8 v9 v10 v11 x4 trivial)
 ·exact tJ (Zug v5 v6 v7 v8 v9 v10 v11 (Zx (Zp E0.Filter) (Zp (⟨0, 0, 0, 0, 0, 0, 0, ([] : List UInt8), 0, 0, (⟨0, 0⟩ : Zc), (⟨0, 0⟩ : Zc), (⟨0, 0⟩ : Zc)⟩ : Zi))) trivial)
theorem Zuh (E0 : Zm) (v5 : Bool) (v6 : Bool) (v7 : Bool) (v8 : Bool) (v9 : Bool) (v10 : Bool) (h : (Z9 E0) ∧ True) : Tot (Zss E0 v5 v6 v7 v8 v9 v10).den (Nx Zh3 Zix (0, 0, 0, 0, 0, 0) (fun r => True)) := by
 obtain ⟨ob30000000, _⟩ := h
 dsimp only [Zss, LT.den]
 refine tB (Zhn E0.Op 112) (fun x1 h2 => ?_)
 refine tF (fun h3 => ?_) (fun h3 => ?_)
 ·refine tO (fun h4 => ?_) (fun h4 => ?_)
  ·refine tB (Zaap E0.Pool) (fun x5 h6 => ?_)
   replace h6 : (SzT x5) := h6
   exact tJ (Zot E0 v5 v6 v7 v8 v9 v10 (!(x5 == ([] : List UInt8))) ⟨ob30000000, trivial⟩)
  ·exact tJ (Zot E0 v5 v6 v7 v8 v9 v10 false ⟨ob30000000, trivial⟩)
 ·exact tJ (Zot E0 v5 v6 v7 v8 v9 v10 (Zx ((cA6 (cI .i64)) E0.Pool) ((cA6 (cI .i64)) (⟨0, 0, 0, 0, 0, 0⟩ : (A6 Int)))) ⟨ob30000000, trivial⟩)
theorem Zui (E0 : Zm) (v5 : Bool) (v6 : Bool) (v7 : Bool) (v8 : Bool) (v9 : Bool) (h : (Z9 E0) ∧ True) : Tot (Zst E0 v5 v6 v7 v8 v9).den (Nx Zh3 Zix (0, 0, 0, 0, 0, 0) (fun r => True)) := by
 obtain ⟨ob30000000, _⟩ := h
 dsimp only [Zst, LT.den]
 have q1 : E0.Mods.length * 176 ≤ 140737488351232 := ob30000000.2.2.2.2.1
 refine tB (Zhn E0.Op 109) (fun x2 h3 => ?_)
 refine tF (fun h4 => ?_) (fun h4 => ?_)
 ·refine tB (Zamc E0.Mods ob30000000.2.2.2.2) (fun x5 h6 => ?_)
  exact tJ (Zuh E0 v5 v6 v7 v8 v9 x5 ⟨ob30000000, trivial⟩)
 ·exact tJ (Zuh E0 v5 v6 v7 v8 v9 ((E0.Mods.length : Int) == 0) ⟨ob30000000, trivial⟩)
theorem Zuj (E0 : Zm) (v5 : Bool) (v6 : Bool) (v7 : Bool) (v8 : Bool) (h : (Z9 E0) ∧ True) : Tot (Zsu E0 v5 v6 v7 v8).den (Nx Zh3 Zix (0, 0, 0, 0, 0, 0) (fun r => True)) := by
 obtain ⟨ob30000000, _⟩ := h
 dsimp only [Zsu, LT.den]
 refine tB (Zhn E0.Op 97) (fun x1 h2 => ?_)
 refine tF (fun h3 => ?_) (fun h3 => ?_)
 ·refine tB (Zapo E0.Amount ob30000000.2.1) (fun x4 h5 => ?_)
  exact tJ (Zui E0 v5 v6 v7 v8 x4 ⟨ob30000000, trivial⟩)
 ·exact tJ (Zui E0 v5 v6 v7 v8 (Zx (Zbe E0.Amount) (Zbe (⟨0, 0, 0, (⟨0, 0, 0, 0, 0, 0, 0, ([] : List UInt8), 0, 0, (⟨0, 0⟩ : Zc), (⟨0, 0⟩ : Zc), (⟨0, 0⟩ : Zc)⟩ : Zi)⟩ : Zcf))) ⟨ob30000000, trivial⟩)
theorem Zou (E0 : Zm) (v5 : Bool) (v6 : Bool) (v7 : Bool) (h : (Z9 E0) ∧ True) : Tot (Zpk E0 v5 v6 v7).den (Nx Zh3 Zix (0, 0, 0, 0, 0, 0) (fun r => True)) := by
 obtain ⟨ob30000000, _⟩ := h
 dsimp only [Zpk, LT.den]
 refine tB (Zhn E0.Op 99) (fun x1 h2 => ?_)
 refine tF (fun h3 => ?_) (fun h3 => ?_)
 ·refine tB (Z2d E0.Card (SzS.t ob30000000.2.2.1)) (fun x4 h5 => ?_)
  exact tJ (Zuj E0 v5 v6 v7 x4 ⟨ob30000000, trivial⟩)
 ·exact tJ (Zuj E0 v5 v6 v7 (E0.Card == ([] : List UInt8)) ⟨ob30000000, trivial⟩)
theorem Zkw (E0 : Zm) (v5 : Bool) (v6 : Bool) (h : (Z9 E0) ∧ True) : Tot (Zlx E0 v5 v6).den (Nx Zh3 Zix (0, 0, 0, 0, 0, 0) (fun r => True)) := by
 obtain ⟨ob30000000, _⟩ := h
 dsimp only [Zlx, LT.den]
 refine tE (fun h1 => ?_) (fun h1 => ?_)
 ·exact tJ (Zou E0 v5 v6 true ⟨ob30000000, trivial⟩)
 ·refine tB (Zhn E0.Op 107) (fun x2 h3 => ?_)
  refine tF (fun h4 => ?_) (fun h4 => ?_)
  ·refine tB (Z5v E0.Counter) (fun x5 h6 => ?_)
   replace h6 : (SzN x5) := h6
   exact tJ (Zou E0 v5 v6 (!(x5 == ([] : List UInt8))) ⟨ob30000000, trivial⟩)
  ·exact tJ (Zou E0 v5 v6 false ⟨ob30000000, trivial⟩)
theorem Zuk (E0 : Zm) (v5 : Bool) (h : (Z9 E0) ∧ True) : Tot (Zsv E0 v5).den (Nx Zh3 Zix (0, 0, 0, 0, 0, 0) (fun r => True)) := by
 obtain ⟨ob30000000, _⟩ := h
 dsimp only [Zsv, LT.den]
 refine tE (fun h1 => ?_) (fun h1 => ?_)
 ·exact tJ (Zkw E0 v5 true ⟨ob30000000, trivial⟩)
 ·refine tB (Zhn E0.Op 122) (fun x2 h3 => ?_)
  refine tF (fun h4 => ?_) (fun h4 => ?_)
  ·refine tD (fun h5 => ?_) (fun h5 => ?_)
   ·exact tJ (Zkw E0 v5 (decide (E0.Zone ≤ 4)) ⟨ob30000000, trivial⟩)
   ·exact tJ (Zkw E0 v5 false ⟨ob30000000, trivial⟩)
  ·exact tJ (Zkw E0 v5 false ⟨ob30000000, trivial⟩)
theorem Zapp (a0 : Zm) (a1 : Int) (oa0 : Z9 a0) : Tot (Zakz a0 a1) (fun r => True) := by
 unfold Zakz
 refine tX (Inv := Zh3) (μ := Zix) (m := (1000000, 0, 0, 0, 0, 0)) ?_ ?_
 ·dsimp only [Zakx, LT.den]
  refine tB (Zama a0.Op) (fun x1 h2 => ?_)
  replace h2 : (SzN x1) := h2
  refine tF (fun h3 => ?_) (fun h3 => ?_)
  ·exact tR trivial
  ·refine tB (Zhn a0.Op 114) (fun x4 h5 => ?_)
   refine tF (fun h6 => ?_) (fun h6 => ?_)
   ·refine tB (Zapn a0.Ref a1 oa0.1) (fun x7 h8 => ?_)
    exact tJ (Zuk a0 x7 ⟨oa0, trivial⟩)
   ·exact tJ (Zuk a0 (Zx (Zct a0.Ref) (Zct (⟨0, 0, (⟨0, 0, 0, 0, 0, 0, 0, ([] : List UInt8), 0, 0, (⟨0, 0⟩ : Zc), (⟨0, 0⟩ : Zc), (⟨0, 0⟩ : Zc)⟩ : Zi)⟩ : Zeq))) ⟨oa0, trivial⟩)
 ·intro s hs
  cases s with
  | L0 E0 v5 => exact Zuk E0 v5 hs
  | L1 E0 v5 v6 => exact Zkw E0 v5 v6 hs
  | L2 E0 v5 v6 v7 => exact Zou E0 v5 v6 v7 hs
  | L3 E0 v5 v6 v7 v8 => exact Zuj E0 v5 v6 v7 v8 hs
  | L4 E0 v5 v6 v7 v8 v9 => exact Zui E0 v5 v6 v7 v8 v9 hs
  | L5 E0 v5 v6 v7 v8 v9 v10 => exact Zuh E0 v5 v6 v7 v8 v9 v10 hs
  | L6 E0 v5 v6 v7 v8 v9 v10 v11 => exact Zot E0 v5 v6 v7 v8 v9 v10 v11 hs
  | L7 v5 v6 v7 v8 v9 v10 v11 v12 => exact Zug v5 v6 v7 v8 v9 v10 v11 v12 hs
def Zyp : Zko → Prop
 | .L0 v0 v1 v5 => ((SzL 560 Z9) v0) ∧ (0 ≤ v5)
def Znc : Zko → M6
 | .L0 v0 v1 v5 => (1, ((v0.length : Int) - v5).toNat, 1000000, 0, 0, 0)
theorem Z5x (v0 : (List Zm)) (v1 : Int) (v5 : Int) (h : ((SzL 560 Z9) v0) ∧ (0 ≤ v5)) : Tot (Zrf v0 v1 v5).den (Nx Zyp Znc (1, ((v0.length : Int) - v5).toNat, 1000000, 0, 0, 0) (fun r => True)) := by
 obtain ⟨ov0, cv5⟩ := h
 have lb_v0 : v0.length * 560 ≤ 140737488351232 := ov0.1
 dsimp only [Zrf, LT.den]
 have q1 : v0.length * 560 ≤ 140737488351232 := ov0.1
 refine tD (fun h2 => ?_) (fun h2 => ?_)
 ·refine tB (tI (by omega) (by omega)) (fun x3 h4 => ?_)
  have oh4 : Z9 x3 := ov0.2 x3 h4.1
  refine tB (Zapp x3 v1 oh4) (fun x5 h6 => ?_)
  refine tO (fun h7 => ?_) (fun h7 => ?_)
  ·exact tR trivial
  ·have q8 : -9223372036854775808 ≤ (v5 + 1) → (v5 + 1) < 9223372036854775808 → IntKind.wrap .i64 (v5 + 1) = (v5 + 1) := Zao _
   have q9 : -9223372036854775808 ≤ IntKind.wrap .i64 (v5 + 1) ∧ IntKind.wrap .i64 (v5 + 1) < 9223372036854775808 := Zap _
   exact tL ⟨ov0, cl⟩ (by unfold Znc lt6; dsimp only; omega)
 ·refine tD (fun h10 => ?_) (fun h10 => ?_)
  ·exact tR trivial
  ·exact tR trivial
theorem Zaej (a0 : (List Zm)) (a1 : Int) (oa0 : (SzL 560 Z9) a0) : Tot (Zzj a0 a1) (fun r => True) := by
 unfold Zzj
 refine tX (Inv := Zyp) (μ := Znc) (m := (1000000, 0, 0, 0, 0, 0)) ?_ ?_
 ·have lb_a0 : a0.length * 560 ≤ 140737488351232 := oa0.1
  dsimp only [Z2n, LT.den]
  exact tL ⟨oa0, cl⟩ (by unfold Znc lt6; dsimp only; omega)
 ·intro s hs
  cases s with
  | L0 v0 v1 v5 => exact Z5x v0 v1 v5 hs
def Znd : Zj0 → Prop
 | .L0 E0 v3 => (Za0 E0) ∧ True
 | .L1 E0 v3 => (Za0 E0) ∧ True
 | .L2 E0 v3 => (Za0 E0) ∧ True
 | .L3 E0 v3 => (Za0 E0) ∧ True
 | .L4 E0 v3 => (Za0 E0) ∧ True
def Zpq : Zj0 → M6
 | .L0 E0 v3 => (0, 0, 0, 0, 0, 0)
 | .L1 E0 v3 => (0, 0, 0, 0, 0, 0)
 | .L2 E0 v3 => (0, 0, 0, 0, 0, 0)
 | .L3 E0 v3 => (0, 0, 0, 0, 0, 0)
 | .L4 E0 v3 => (0, 0, 0, 0, 0, 0)
theorem Zul (E0 : Zl) (v3 : Bool) (h : (Za0 E0) ∧ True) : Tot (Zsw E0 v3).den (Nx Znd Zpq (0, 0, 0, 0, 0, 0) (fun r => True)) := by
 obtain ⟨ob30000000, _⟩ := h
 dsimp only [Zsw, LT.den]
 refine tF (fun h1 => ?_) (fun h1 => ?_)
 ·refine tB (Zahr E0.Specs ob30000000.2.2.2.1) (fun x2 h3 => ?_)
  refine tF (fun h4 => ?_) (fun h4 => ?_)
  ·have q5 : E0.Specs.length * 144 ≤ 140737488351232 := ob30000000.2.2.2.1.1
   refine tB (Zaej E0.Effects (E0.Specs.length : Int) ob30000000.2.2.2.2.1) (fun x6 h7 => ?_)
   exact tR trivial
  ·exact tR trivial
 ·have q8 : E0.Specs.length * 144 ≤ 140737488351232 := ob30000000.2.2.2.1.1
  refine tE (fun h9 => ?_) (fun h9 => ?_)
  ·have q10 : E0.Effects.length * 560 ≤ 140737488351232 := ob30000000.2.2.2.2.1.1
   exact tR trivial
  ·exact tR trivial
theorem Zum (E0 : Zl) (v3 : Bool) (h : (Za0 E0) ∧ True) : Tot (Zsx E0 v3).den (Nx Znd Zpq (0, 0, 0, 0, 0, 0) (fun r => True)) := by
 obtain ⟨ob30000000, _⟩ := h
 dsimp only [Zsx, LT.den]
 refine tE (fun h1 => ?_) (fun h1 => ?_)
 ·refine tB (Zapm E0.Replace ob30000000.2.2.2.2.2) (fun x2 h3 => ?_)
  refine tO (fun h4 => ?_) (fun h4 => ?_)
  ·exact tR trivial
  ·exact tJ (Zul E0 v3 ⟨ob30000000, trivial⟩)
 ·refine tO (fun h5 => ?_) (fun h5 => ?_)
  ·exact tR trivial
  ·exact tJ (Zul E0 v3 ⟨ob30000000, trivial⟩)
theorem Zun (E0 : Zl) (v3 : Bool) (h : (Za0 E0) ∧ True) : Tot (Zsy E0 v3).den (Nx Znd Zpq (0, 0, 0, 0, 0, 0) (fun r => True)) := by
 obtain ⟨ob30000000, _⟩ := h
 dsimp only [Zsy, LT.den]
 refine tE (fun h1 => ?_) (fun h1 => ?_)
 ·refine tB (Zapl E0.Trigger ob30000000.2.2.1) (fun x2 h3 => ?_)
  refine tO (fun h4 => ?_) (fun h4 => ?_)
  ·exact tR trivial
  ·exact tJ (Zum E0 v3 ⟨ob30000000, trivial⟩)
 ·refine tO (fun h5 => ?_) (fun h5 => ?_)
  ·exact tR trivial
  ·refine tF (fun h6 => ?_) (fun h6 => ?_)
   ·exact tR trivial
   ·exact tJ (Zum E0 v3 ⟨ob30000000, trivial⟩)
theorem Zuo (E0 : Zl) (v3 : Bool) (h : (Za0 E0) ∧ True) : Tot (Zsz E0 v3).den (Nx Znd Zpq (0, 0, 0, 0, 0, 0) (fun r => True)) := by
 obtain ⟨ob30000000, _⟩ := h
 dsimp only [Zsz, LT.den]
 refine tE (fun h1 => ?_) (fun h1 => ?_)
 ·refine tB (Zaho E0.Price) (fun x2 h3 => ?_)
  refine tO (fun h4 => ?_) (fun h4 => ?_)
  ·exact tR trivial
  ·exact tJ (Zun E0 v3 ⟨ob30000000, trivial⟩)
 ·refine tO (fun h5 => ?_) (fun h5 => ?_)
  ·exact tR trivial
  ·refine tF (fun h6 => ?_) (fun h6 => ?_)
   ·exact tR trivial
   ·exact tJ (Zun E0 v3 ⟨ob30000000, trivial⟩)
theorem Zov (E0 : Zl) (v3 : Bool) (h : (Za0 E0) ∧ True) : Tot (Zpl E0 v3).den (Nx Znd Zpq (0, 0, 0, 0, 0, 0) (fun r => True)) := by
 obtain ⟨ob30000000, _⟩ := h
 dsimp only [Zpl, LT.den]
 refine tE (fun h1 => ?_) (fun h1 => ?_)
 ·refine tB (Zgq E0.Filter ob30000000.1) (fun x2 h3 => ?_)
  replace h3 : (x2 = true → 0 ≤ E0.Filter.Zone ∧ E0.Filter.Zone ≤ 5 ∧ 0 ≤ E0.Filter.Who ∧ E0.Filter.Who ≤ 2 ∧ 0 ≤ E0.Filter.Self ∧ E0.Filter.Self ≤ 2 ∧ 0 ≤ E0.Filter.Tap ∧ E0.Filter.Tap ≤ 2 ∧ 0 ≤ E0.Filter.Power.Kind ∧ E0.Filter.Power.Kind ≤ 3 ∧ 0 ≤ E0.Filter.Tough.Kind ∧ E0.Filter.Tough.Kind ≤ 3 ∧ 0 ≤ E0.Filter.Value.Kind ∧ E0.Filter.Value.Kind ≤ 3) := h3
  have eh3_0 := h3
  refine tO (fun h4 => ?_) (fun h4 => ?_)
  ·exact tR trivial
  ·have h4_0 := eh3_0 h4
   refine tN (fun h5 => ?_) (fun h5 => ?_)
   ·exact tR trivial
   ·refine tB (Zpb E0.Mods ob30000000.2.1) (fun x6 h7 => ?_)
    replace h7 : (x6.length ≤ 4611686018427387904) := h7
    have eh7_0 := h7
    try simp only [List.length_nil, List.length_cons, Nat.zero_add] at eh7_0
    refine tF (fun h8 => ?_) (fun h8 => ?_)
    ·exact tR trivial
    ·exact tJ (Zuo E0 v3 ⟨ob30000000, trivial⟩)
 ·refine tO (fun h9 => ?_) (fun h9 => ?_)
  ·exact tR trivial
  ·have q10 : E0.Mods.length * 176 ≤ 140737488351232 := ob30000000.2.1.1
   refine tD (fun h11 => ?_) (fun h11 => ?_)
   ·exact tR trivial
   ·exact tJ (Zuo E0 v3 ⟨ob30000000, trivial⟩)
theorem Zvd (a0 : Zl) (oa0 : Za0 a0) : Tot (Zak2 a0) (fun r => True) := by
 unfold Zak2
 refine tX (Inv := Znd) (μ := Zpq) (m := (1000000, 0, 0, 0, 0, 0)) ?_ ?_
 ·dsimp only [Zak0, LT.den]
  refine tD (fun h1 => ?_) (fun h1 => ?_)
  ·exact tR trivial
  ·refine tD (fun h2 => ?_) (fun h2 => ?_)
   ·exact tR trivial
   ·refine tE (fun h3 => ?_) (fun h3 => ?_)
    ·exact tJ (Zov a0 true ⟨oa0, trivial⟩)
    ·refine tE (fun h4 => ?_) (fun h4 => ?_)
     ·exact tJ (Zov a0 true ⟨oa0, trivial⟩)
     ·exact tJ (Zov a0 (a0.Kind == 4) ⟨oa0, trivial⟩)
 ·intro s hs
  cases s with
  | L0 E0 v3 => exact Zov E0 v3 hs
  | L1 E0 v3 => exact Zuo E0 v3 hs
  | L2 E0 v3 => exact Zun E0 v3 hs
  | L3 E0 v3 => exact Zum E0 v3 hs
  | L4 E0 v3 => exact Zul E0 v3 hs
theorem Zamf (a0 : Zs) (oa0 : Zai a0) : Tot (Z9z a0) (fun r => True) := by
 unfold Z9z
 refine tZ ?_
 dsimp only [Zac2, LT.den]
 refine tE (fun h1 => ?_) (fun h1 => ?_)
 ·exact tR trivial
 ·exact tR trivial
def Z2g : Zrg → Prop
 | .L0 E0 => (Zai E0) ∧ True
 | .L1 E0 v3 v4 => (Zai E0) ∧ (0 ≤ v4)
def Zpr : Zrg → M6
 | .L0 E0 => (2, 0, 0, 0, 0, 0)
 | .L1 E0 v3 v4 => (1, ((E0.Abilities.length : Int) - v4).toNat, 1000000, 0, 0, 0)
theorem Zup (E0 : Zs) (h : (Zai E0) ∧ True) : Tot (Zs0 E0).den (Nx Z2g Zpr (2, 0, 0, 0, 0, 0) (fun r => True)) := by
 obtain ⟨ob30000000, _⟩ := h
 dsimp only [Zs0, LT.den]
 exact tL ⟨ob30000000, cl⟩ (by unfold Zpr lt6; dsimp only; omega)
theorem Zahs (E0 : Zs) (v3 : Int) (v4 : Int) (h : (Zai E0) ∧ (0 ≤ v4)) : Tot (Z4p E0 v3 v4).den (Nx Z2g Zpr (1, ((E0.Abilities.length : Int) - v4).toNat, 1000000, 0, 0, 0) (fun r => True)) := by
 obtain ⟨ob30000000, cv4⟩ := h
 dsimp only [Z4p, LT.den]
 have q1 : E0.Abilities.length * 640 ≤ 140737488351232 := ob30000000.2.2.1
 refine tD (fun h2 => ?_) (fun h2 => ?_)
 ·refine tB (tI (by omega) (by omega)) (fun x3 h4 => ?_)
  have oh4 : Za0 x3 := ob30000000.2.2.2 x3 h4.1
  refine tB (Zvd x3 oh4) (fun x5 h6 => ?_)
  refine tO (fun h7 => ?_) (fun h7 => ?_)
  ·exact tR trivial
  ·refine tE (fun h8 => ?_) (fun h8 => ?_)
   ·have q9 : -9223372036854775808 ≤ (v3 + 1) → (v3 + 1) < 9223372036854775808 → IntKind.wrap .i64 (v3 + 1) = (v3 + 1) := Zao _
    have q10 : -9223372036854775808 ≤ IntKind.wrap .i64 (v3 + 1) ∧ IntKind.wrap .i64 (v3 + 1) < 9223372036854775808 := Zap _
    have q11 : -9223372036854775808 ≤ (v4 + 1) → (v4 + 1) < 9223372036854775808 → IntKind.wrap .i64 (v4 + 1) = (v4 + 1) := Zao _
    have q12 : -9223372036854775808 ≤ IntKind.wrap .i64 (v4 + 1) ∧ IntKind.wrap .i64 (v4 + 1) < 9223372036854775808 := Zap _
    exact tL ⟨ob30000000, cl⟩ (by unfold Zpr lt6; dsimp only; omega)
   ·have q13 : -9223372036854775808 ≤ (v4 + 1) → (v4 + 1) < 9223372036854775808 → IntKind.wrap .i64 (v4 + 1) = (v4 + 1) := Zao _
    have q14 : -9223372036854775808 ≤ IntKind.wrap .i64 (v4 + 1) ∧ IntKind.wrap .i64 (v4 + 1) < 9223372036854775808 := Zap _
    exact tL ⟨ob30000000, cl⟩ (by unfold Zpr lt6; dsimp only; omega)
 ·refine tB (Zamf E0 ob30000000) (fun x15 h16 => ?_)
  refine tF (fun h17 => ?_) (fun h17 => ?_)
  ·refine tO (fun h18 => ?_) (fun h18 => ?_)
   ·refine tE (fun h19 => ?_) (fun h19 => ?_)
    ·refine tE (fun h20 => ?_) (fun h20 => ?_)
     ·exact tR trivial
     ·exact tR trivial
    ·exact tR trivial
   ·exact tR trivial
  ·refine tE (fun h21 => ?_) (fun h21 => ?_)
   ·refine tO (fun h22 => ?_) (fun h22 => ?_)
    ·refine tE (fun h23 => ?_) (fun h23 => ?_)
     ·exact tR trivial
     ·exact tR trivial
    ·exact tR trivial
   ·exact tR trivial
theorem Zapq (a0 : Zs) (oa0 : Zai a0) : Tot (Zak5 a0) (fun r => True) := by
 unfold Zak5
 refine tX (Inv := Z2g) (μ := Zpr) (m := (1000000, 0, 0, 0, 0, 0)) ?_ ?_
 ·dsimp only [Zak3, LT.den]
  refine tB (Z2d a0.Name (SzS.t oa0.1)) (fun x1 h2 => ?_)
  refine tO (fun h3 => ?_) (fun h3 => ?_)
  ·exact tR trivial
  ·refine tB (Z2e a0.Cost) (fun x4 h5 => ?_)
   replace h5 : (x4 = true → a0.Cost.X ≤ 2) ∧ (x4 = true → ∀ n, n ∈ A5.list a0.Cost.Color → n ≤ 9) := h5
   have eh5_0 := h5.1
   have eh5_1 := h5.2
   refine tO (fun h6 => ?_) (fun h6 => ?_)
   ·exact tR trivial
   ·have h6_0 := eh5_0 h6
    have h6_1 := eh5_1 h6
    refine tB (Zapj a0.Line oa0.2.1) (fun x7 h8 => ?_)
    refine tO (fun h9 => ?_) (fun h9 => ?_)
    ·exact tR trivial
    ·refine tB (Zad2 a0.Keys) (fun x10 h11 => ?_)
     refine tO (fun h12 => ?_) (fun h12 => ?_)
     ·exact tR trivial
     ·refine tD (fun h13 => ?_) (fun h13 => ?_)
      ·exact tR trivial
      ·refine tD (fun h14 => ?_) (fun h14 => ?_)
       ·exact tR trivial
       ·refine tD (fun h15 => ?_) (fun h15 => ?_)
        ·exact tR trivial
        ·refine tD (fun h16 => ?_) (fun h16 => ?_)
         ·exact tR trivial
         ·refine tD (fun h17 => ?_) (fun h17 => ?_)
          ·exact tR trivial
          ·refine tD (fun h18 => ?_) (fun h18 => ?_)
           ·exact tR trivial
           ·refine tB (Zaaj a0 oa0) (fun x19 h20 => ?_)
            refine tO (fun h21 => ?_) (fun h21 => ?_)
            ·refine tN (fun h22 => ?_) (fun h22 => ?_)
             ·exact tR trivial
             ·refine tN (fun h23 => ?_) (fun h23 => ?_)
              ·exact tR trivial
              ·have q24 : a0.Abilities.length * 640 ≤ 140737488351232 := oa0.2.2.1
               refine tD (fun h25 => ?_) (fun h25 => ?_)
               ·exact tR trivial
               ·exact tJ (Zup a0 ⟨oa0, trivial⟩)
            ·have q26 : a0.Abilities.length * 640 ≤ 140737488351232 := oa0.2.2.1
             refine tD (fun h27 => ?_) (fun h27 => ?_)
             ·exact tR trivial
             ·exact tJ (Zup a0 ⟨oa0, trivial⟩)
 ·intro s hs
  cases s with
  | L0 E0 => exact Zup E0 hs
  | L1 E0 v3 v4 => exact Zahs E0 v3 v4 hs
def Z5y : Zqb → Prop
 | .L0 v0 v1 v5 => ((SzL 176 Zai) v0) ∧ (SzT v1) ∧ (0 ≤ v5)
def Zr8 : Zqb → M6
 | .L0 v0 v1 v5 => (1, ((v0.length : Int) - v5).toNat, 1000000, 0, 0, 0)
theorem Zaek (v0 : (List Zs)) (v1 : (List UInt8)) (v5 : Int) (h : ((SzL 176 Zai) v0) ∧ (SzT v1) ∧ (0 ≤ v5)) : Tot (Zzk v0 v1 v5).den (Nx Z5y Zr8 (1, ((v0.length : Int) - v5).toNat, 1000000, 0, 0, 0) (fun r => True)) := by
 obtain ⟨ov0, ov1, cv5⟩ := h
 have lb_v0 : v0.length * 176 ≤ 140737488351232 := ov0.1
 have lb_v1 : v1.length ≤ 562949953421312 := ov1
 dsimp only [Zzk, LT.den]
 have q1 : v0.length * 176 ≤ 140737488351232 := ov0.1
 refine tD (fun h2 => ?_) (fun h2 => ?_)
 ·refine tB (tI (by omega) (by omega)) (fun x3 h4 => ?_)
  have oh4 : Zai x3 := ov0.2 x3 h4.1
  refine tF (fun h5 => ?_) (fun h5 => ?_)
  ·exact tR trivial
  ·have q6 : -9223372036854775808 ≤ (v5 + 1) → (v5 + 1) < 9223372036854775808 → IntKind.wrap .i64 (v5 + 1) = (v5 + 1) := Zao _
   have q7 : -9223372036854775808 ≤ IntKind.wrap .i64 (v5 + 1) ∧ IntKind.wrap .i64 (v5 + 1) < 9223372036854775808 := Zap _
   exact tL ⟨ov0, ov1, cl⟩ (by unfold Zr8 lt6; dsimp only; omega)
 ·exact tR trivial
theorem Zamg (a0 : (List Zs)) (a1 : (List UInt8)) (oa0 : (SzL 176 Zai) a0) (oa1 : SzT a1) : Tot (Z90 a0 a1) (fun r => True) := by
 unfold Z90
 refine tX (Inv := Z5y) (μ := Zr8) (m := (1000000, 0, 0, 0, 0, 0)) ?_ ?_
 ·have lb_a0 : a0.length * 176 ≤ 140737488351232 := oa0.1
  have lb_a1 : a1.length ≤ 562949953421312 := oa1
  dsimp only [Zac4, LT.den]
  exact tL ⟨oa0, oa1, cl⟩ (by unfold Zr8 lt6; dsimp only; omega)
 ·intro s hs
  cases s with
  | L0 v0 v1 v5 => exact Zaek v0 v1 v5 hs
def Z29 : Znx → Prop
 | .L0 v0 v1 v5 => ((SzL 176 Zai) v0) ∧ (SzT v1) ∧ (0 ≤ v5)
def Zmk : Znx → M6
 | .L0 v0 v1 v5 => (1, ((v0.length : Int) - v5).toNat, 1000000, 0, 0, 0)
theorem Zaaq (v0 : (List Zs)) (v1 : (List UInt8)) (v5 : Int) (h : ((SzL 176 Zai) v0) ∧ (SzT v1) ∧ (0 ≤ v5)) : Tot (Zwf v0 v1 v5).den (Nx Z29 Zmk (1, ((v0.length : Int) - v5).toNat, 1000000, 0, 0, 0) (fun r => True)) := by
 obtain ⟨ov0, ov1, cv5⟩ := h
 have lb_v0 : v0.length * 176 ≤ 140737488351232 := ov0.1
 have lb_v1 : v1.length ≤ 562949953421312 := ov1
 dsimp only [Zwf, LT.den]
 have q1 : v0.length * 176 ≤ 140737488351232 := ov0.1
 refine tD (fun h2 => ?_) (fun h2 => ?_)
 ·refine tB (tI (by omega) (by omega)) (fun x3 h4 => ?_)
  have oh4 : Zai x3 := ov0.2 x3 h4.1
  refine tF (fun h5 => ?_) (fun h5 => ?_)
  ·refine tF (fun h6 => ?_) (fun h6 => ?_)
   ·exact tR trivial
   ·have q7 : -9223372036854775808 ≤ (v5 + 1) → (v5 + 1) < 9223372036854775808 → IntKind.wrap .i64 (v5 + 1) = (v5 + 1) := Zao _
    have q8 : -9223372036854775808 ≤ IntKind.wrap .i64 (v5 + 1) ∧ IntKind.wrap .i64 (v5 + 1) < 9223372036854775808 := Zap _
    exact tL ⟨ov0, ov1, cl⟩ (by unfold Zmk lt6; dsimp only; omega)
  ·have q9 : -9223372036854775808 ≤ (v5 + 1) → (v5 + 1) < 9223372036854775808 → IntKind.wrap .i64 (v5 + 1) = (v5 + 1) := Zao _
   have q10 : -9223372036854775808 ≤ IntKind.wrap .i64 (v5 + 1) ∧ IntKind.wrap .i64 (v5 + 1) < 9223372036854775808 := Zap _
   exact tL ⟨ov0, ov1, cl⟩ (by unfold Zmk lt6; dsimp only; omega)
 ·exact tR trivial
theorem Zaht (a0 : (List Zs)) (a1 : (List UInt8)) (oa0 : (SzL 176 Zai) a0) (oa1 : SzT a1) : Tot (Z4q a0 a1) (fun r => True) := by
 unfold Z4q
 refine tX (Inv := Z29) (μ := Zmk) (m := (1000000, 0, 0, 0, 0, 0)) ?_ ?_
 ·have lb_a0 : a0.length * 176 ≤ 140737488351232 := oa0.1
  have lb_a1 : a1.length ≤ 562949953421312 := oa1
  dsimp only [Z75, LT.den]
  exact tL ⟨oa0, oa1, cl⟩ (by unfold Zmk lt6; dsimp only; omega)
 ·intro s hs
  cases s with
  | L0 v0 v1 v5 => exact Zaaq v0 v1 v5 hs
def Zqz : Zim → Prop
 | .L0 v0 E0 v5 => ((SzL 176 Zai) v0) ∧ (Zai E0) ∧ (0 ≤ v5)
 | .L1 v0 E0 v5 v6 => ((SzL 176 Zai) v0) ∧ (Zai E0) ∧ (0 ≤ v5) ∧ (0 ≤ v6) ∧ (v5 < (E0.Abilities.length : Int)) ∧ (v5 < (E0.Abilities.length : Int))
def Zgc : Zim → M6
 | .L0 v0 E0 v5 => (1, ((E0.Abilities.length : Int) - v5).toNat, 1000000, 0, 0, 0)
 | .L1 v0 E0 v5 v6 => (1, ((E0.Abilities.length : Int) - v5).toNat, 1, ((((E0.Abilities[v5.toNat]?).map fun x => x.Effects.length).getD 0 : Nat) - v6).toNat, 1000000, 0)
theorem Z5z (v0 : (List Zs)) (E0 : Zs) (v5 : Int) (h : ((SzL 176 Zai) v0) ∧ (Zai E0) ∧ (0 ≤ v5)) : Tot (Zrh v0 E0 v5).den (Nx Zqz Zgc (1, ((E0.Abilities.length : Int) - v5).toNat, 1000000, 0, 0, 0) (fun r => True)) := by
 obtain ⟨ov0, ob30000000, cv5⟩ := h
 have lb_v0 : v0.length * 176 ≤ 140737488351232 := ov0.1
 dsimp only [Zrh, LT.den]
 have q1 : E0.Abilities.length * 640 ≤ 140737488351232 := ob30000000.2.2.1
 refine tD (fun h2 => ?_) (fun h2 => ?_)
 ·exact tL ⟨ov0, ob30000000, cl, cl, cl, cl⟩ (by unfold Zgc lt6; dsimp only; omega)
 ·exact tR trivial
theorem Z50 (v0 : (List Zs)) (E0 : Zs) (v5 : Int) (v6 : Int) (h : ((SzL 176 Zai) v0) ∧ (Zai E0) ∧ (0 ≤ v5) ∧ (0 ≤ v6) ∧ (v5 < (E0.Abilities.length : Int)) ∧ (v5 < (E0.Abilities.length : Int))) : Tot (Zri v0 E0 v5 v6).den (Nx Zqz Zgc (1, ((E0.Abilities.length : Int) - v5).toNat, 1, ((((E0.Abilities[v5.toNat]?).map fun x => x.Effects.length).getD 0 : Nat) - v6).toNat, 1000000, 0) (fun r => True)) := by
 obtain ⟨ov0, ob30000000, cv5, cv6, bd4, i0⟩ := h
 have lb_v0 : v0.length * 176 ≤ 140737488351232 := ov0.1
 dsimp only [Zri, LT.den]
 have lx_0 : E0.Abilities.length * 640 ≤ 140737488351232 := ob30000000.2.2.1
 refine tB (tI (by omega) (by omega)) (fun x1 h2 => ?_)
 have oh2 : Za0 x1 := ob30000000.2.2.2 x1 h2.1
 have mh2 : ((E0.Abilities[v5.toNat]?).map fun x => x.Effects.length).getD 0 = x1.Effects.length := by rw [h2.2]; rfl
 have q3 : x1.Effects.length * 560 ≤ 140737488351232 := oh2.2.2.2.2.1.1
 refine tD (fun h4 => ?_) (fun h4 => ?_)
 ·refine tB (tI (by omega) (by omega)) (fun x5 h6 => ?_)
  have oh6 : Z9 x5 := oh2.2.2.2.2.1.2 x5 h6.1
  refine tE (fun h7 => ?_) (fun h7 => ?_)
  ·refine tB (Zaht v0 x5.Card ov0 (SzS.t oh6.2.2.1)) (fun x8 h9 => ?_)
   refine tO (fun h10 => ?_) (fun h10 => ?_)
   ·exact tR trivial
   ·have q11 : -9223372036854775808 ≤ (v6 + 1) → (v6 + 1) < 9223372036854775808 → IntKind.wrap .i64 (v6 + 1) = (v6 + 1) := Zao _
    have q12 : -9223372036854775808 ≤ IntKind.wrap .i64 (v6 + 1) ∧ IntKind.wrap .i64 (v6 + 1) < 9223372036854775808 := Zap _
    exact tL ⟨ov0, ob30000000, cl, cl, cl, cl⟩ (by unfold Zgc lt6; dsimp only; omega)
  ·have q13 : -9223372036854775808 ≤ (v6 + 1) → (v6 + 1) < 9223372036854775808 → IntKind.wrap .i64 (v6 + 1) = (v6 + 1) := Zao _
   have q14 : -9223372036854775808 ≤ IntKind.wrap .i64 (v6 + 1) ∧ IntKind.wrap .i64 (v6 + 1) < 9223372036854775808 := Zap _
   exact tL ⟨ov0, ob30000000, cl, cl, cl, cl⟩ (by unfold Zgc lt6; dsimp only; omega)
 ·have q15 : -9223372036854775808 ≤ (v5 + 1) → (v5 + 1) < 9223372036854775808 → IntKind.wrap .i64 (v5 + 1) = (v5 + 1) := Zao _
  have q16 : -9223372036854775808 ≤ IntKind.wrap .i64 (v5 + 1) ∧ IntKind.wrap .i64 (v5 + 1) < 9223372036854775808 := Zap _
  exact tL ⟨ov0, ob30000000, cl⟩ (by unfold Zgc lt6; dsimp only; omega)
theorem Zael (a0 : (List Zs)) (a1 : Zs) (oa0 : (SzL 176 Zai) a0) (oa1 : Zai a1) : Tot (Zzl a0 a1) (fun r => True) := by
 unfold Zzl
 refine tX (Inv := Zqz) (μ := Zgc) (m := (1000000, 0, 0, 0, 0, 0)) ?_ ?_
 ·have lb_a0 : a0.length * 176 ≤ 140737488351232 := oa0.1
  dsimp only [Z2p, LT.den]
  exact tL ⟨oa0, oa1, cl⟩ (by unfold Zgc lt6; dsimp only; omega)
 ·intro s hs
  cases s with
  | L0 v0 E0 v5 => exact Z5z v0 E0 v5 hs
  | L1 v0 E0 v5 v6 => exact Z50 v0 E0 v5 v6 hs
def Z3a : Zny → Prop
 | .L0 v0 v4 => ((SzL 176 Zai) v0) ∧ (0 ≤ v4)
def Zq0 : Zny → M6
 | .L0 v0 v4 => (1, ((v0.length : Int) - v4).toNat, 1000000, 0, 0, 0)
theorem Zaar (v0 : (List Zs)) (v4 : Int) (h : ((SzL 176 Zai) v0) ∧ (0 ≤ v4)) : Tot (Zwg v0 v4).den (Nx Z3a Zq0 (1, ((v0.length : Int) - v4).toNat, 1000000, 0, 0, 0) (fun r => True)) := by
 obtain ⟨ov0, cv4⟩ := h
 have lb_v0 : v0.length * 176 ≤ 140737488351232 := ov0.1
 dsimp only [Zwg, LT.den]
 have q1 : v0.length * 176 ≤ 140737488351232 := ov0.1
 refine tD (fun h2 => ?_) (fun h2 => ?_)
 ·refine tB (tI (by omega) (by omega)) (fun x3 h4 => ?_)
  have oh4 : Zai x3 := ov0.2 x3 h4.1
  refine tB (Zapq x3 oh4) (fun x5 h6 => ?_)
  refine tO (fun h7 => ?_) (fun h7 => ?_)
  ·exact tR trivial
  ·refine tB (Zamg v0 x3.Name ov0 (SzS.t oh4.1)) (fun x8 h9 => ?_)
   refine tD (fun h10 => ?_) (fun h10 => ?_)
   ·exact tR trivial
   ·refine tB (Zael v0 x3 ov0 oh4) (fun x11 h12 => ?_)
    refine tO (fun h13 => ?_) (fun h13 => ?_)
    ·exact tR trivial
    ·have q14 : -9223372036854775808 ≤ (v4 + 1) → (v4 + 1) < 9223372036854775808 → IntKind.wrap .i64 (v4 + 1) = (v4 + 1) := Zao _
     have q15 : -9223372036854775808 ≤ IntKind.wrap .i64 (v4 + 1) ∧ IntKind.wrap .i64 (v4 + 1) < 9223372036854775808 := Zap _
     exact tL ⟨ov0, cl⟩ (by unfold Zq0 lt6; dsimp only; omega)
 ·exact tR trivial
theorem Zahu (a0 : (List Zs)) (oa0 : (SzL 176 Zai) a0) : Tot (Z4r a0) (fun r => True) := by
 unfold Z4r
 refine tX (Inv := Z3a) (μ := Zq0) (m := (1000000, 0, 0, 0, 0, 0)) ?_ ?_
 ·have lb_a0 : a0.length * 176 ≤ 140737488351232 := oa0.1
  dsimp only [Z77, LT.den]
  have q1 : a0.length * 176 ≤ 140737488351232 := oa0.1
  refine tD (fun h2 => ?_) (fun h2 => ?_)
  ·exact tR trivial
  ·exact tL ⟨oa0, cl⟩ (by unfold Zq0 lt6; dsimp only; omega)
 ·intro s hs
  cases s with
  | L0 v0 v4 => exact Zaar v0 v4 hs
theorem Zex (a0 : Int) (a1 : Int) (a2 : Int) : Tot (Zala a0 a1 a2) (fun r => True) := by
 unfold Zala
 refine tZ ?_
 dsimp only [Zak8, LT.den]
 refine tD (fun h1 => ?_) (fun h1 => ?_)
 ·exact tR trivial
 ·exact tR trivial
def Z3b : Znz → Prop
 | .L0 E0 v3 => (0 ≤ v3) ∧ True
def Zq1 : Znz → M6
 | .L0 E0 v3 => (1, (6 - v3).toNat, 1000000, 0, 0, 0)
theorem Zaas (E0 : (A6 Int)) (v3 : Int) (h : (0 ≤ v3) ∧ True) : Tot (Zwh E0 v3).den (Nx Z3b Zq1 (1, (6 - v3).toNat, 1000000, 0, 0, 0) (fun r => True)) := by
 obtain ⟨cv3, _⟩ := h
 dsimp only [Zwh, LT.den]
 refine tD (fun h1 => ?_) (fun h1 => ?_)
 ·refine tB (tI (by omega) (by have e : (A6.list E0).length = 6 := rfl; omega)) (fun x2 h3 => ?_)
  refine tD (fun h4 => ?_) (fun h4 => ?_)
  ·exact tR trivial
  ·refine tB (tI (by omega) (by have e : (A6.list E0).length = 6 := rfl; omega)) (fun x5 h6 => ?_)
   refine tD (fun h7 => ?_) (fun h7 => ?_)
   ·exact tR trivial
   ·have q8 : -9223372036854775808 ≤ (v3 + 1) → (v3 + 1) < 9223372036854775808 → IntKind.wrap .i64 (v3 + 1) = (v3 + 1) := Zao _
    have q9 : -9223372036854775808 ≤ IntKind.wrap .i64 (v3 + 1) ∧ IntKind.wrap .i64 (v3 + 1) < 9223372036854775808 := Zap _
    exact tL ⟨cl, trivial⟩ (by unfold Zq1 lt6; dsimp only; omega)
 ·exact tR trivial
theorem Zahv (a0 : (A6 Int)) : Tot (Z4s a0) (fun r => True) := by
 unfold Z4s
 refine tX (Inv := Z3b) (μ := Zq1) (m := (1000000, 0, 0, 0, 0, 0)) ?_ ?_
 ·dsimp only [Z79, LT.den]
  exact tL ⟨cl, trivial⟩ (by unfold Zq1 lt6; dsimp only; omega)
 ·intro s hs
  cases s with
  | L0 E0 v3 => exact Zaas E0 v3 hs
def Z3c (a0 : Za) (a1 : Int) : Zn0 → Prop
 | .L0 v1 E0 v5 => (E0 = a0) ∧ (Zw E0) ∧ (0 ≤ v5)
def Zq2 : Zn0 → M6
 | .L0 v1 E0 v5 => (1, ((E0.Objects.length : Int) - v5).toNat, 1000000, 0, 0, 0)
theorem Zaat (a0 : Za) (a1 : Int) (v1 : Int) (E0 : Za) (v5 : Int) (h : (E0 = a0) ∧ (Zw E0) ∧ (0 ≤ v5)) : Tot (Zgl v1 E0 v5).den (Nx (Z3c a0 a1) Zq2 (1, ((E0.Objects.length : Int) - v5).toNat, 1000000, 0, 0, 0) (fun r => (r < (a0.Objects.length : Int)))) := by
 obtain ⟨al0, ob30000000, cv5⟩ := h
 subst al0
 dsimp only [Zgl, LT.den]
 have q1 : E0.Objects.length * 128 ≤ 140737488351232 := ob30000000.2.1.1
 refine tD (fun h2 => ?_) (fun h2 => ?_)
 ·refine tB (tI (by omega) (by omega)) (fun x3 h4 => ?_)
  refine tE (fun h5 => ?_) (fun h5 => ?_)
  ·exact tR cl
  ·have q6 : -9223372036854775808 ≤ (v5 + 1) → (v5 + 1) < 9223372036854775808 → IntKind.wrap .i64 (v5 + 1) = (v5 + 1) := Zao _
   have q7 : -9223372036854775808 ≤ IntKind.wrap .i64 (v5 + 1) ∧ IntKind.wrap .i64 (v5 + 1) < 9223372036854775808 := Zap _
   exact tL ⟨rfl, ob30000000, cl⟩ (by unfold Zq2 lt6; dsimp only; omega)
 ·exact tR cl
theorem Zahw (a0 : Za) (a1 : Int) (oa0 : Zw a0) : Tot (Zs1 a0 a1) (fun r => (r < (a0.Objects.length : Int))) := by
 unfold Zs1
 refine tX (Inv := (Z3c a0 a1)) (μ := Zq2) (m := (1000000, 0, 0, 0, 0, 0)) ?_ ?_
 ·dsimp only [Zzm, LT.den]
  exact tL ⟨rfl, oa0, cl⟩ (by unfold Zq2 lt6; dsimp only; omega)
 ·intro s hs
  cases s with
  | L0 v1 E0 v5 => exact Zaat a0 a1 v1 E0 v5 hs
theorem Zamh (a0 : Za) (a1 : Int) (oa0 : Zw a0) : Tot (Z1u a0 a1) (fun r => True) := by
 unfold Z1u
 refine tZ ?_
 dsimp only [Z1t, LT.den]
 refine tB (Zahw a0 a1 oa0) (fun x1 h2 => ?_)
 replace h2 : (x1 < (a0.Objects.length : Int)) := h2
 have eh2_0 := h2
 try simp only [List.length_nil, List.length_cons, Nat.zero_add] at eh2_0
 refine tD (fun h3 => ?_) (fun h3 => ?_)
 ·exact tR trivial
 ·refine tB (tI (by omega) (by omega)) (fun x4 h5 => ?_)
  exact tR trivial
theorem Z07 (a0 : Za) (a1 : Int) (oa0 : Zw a0) : Tot (Zqc a0 a1) (fun r => True) := by
 unfold Zqc
 refine tZ ?_
 dsimp only [Zwi, LT.den]
 refine tB (Zamh a0 a1 oa0) (fun x1 h2 => ?_)
 exact tR trivial
def Z3d : Zn1 → Prop
 | .L0 v0 v1 v5 v6 => ((SzL 8 (fun _ => True)) v0) ∧ (0 ≤ v6)
def Zml : Zn1 → M6
 | .L0 v0 v1 v5 v6 => (1, ((v0.length : Int) - v6).toNat, 1000000, 0, 0, 0)
theorem Zaau (v0 : (List Int)) (v1 : Int) (v5 : Int) (v6 : Int) (h : ((SzL 8 (fun _ => True)) v0) ∧ (0 ≤ v6)) : Tot (Zly v0 v1 v5 v6).den (Nx Z3d Zml (1, ((v0.length : Int) - v6).toNat, 1000000, 0, 0, 0) (fun r => True)) := by
 obtain ⟨ov0, cv6⟩ := h
 have lb_v0 : v0.length * 8 ≤ 140737488351232 := ov0.1
 dsimp only [Zly, LT.den]
 have q1 : v0.length * 8 ≤ 140737488351232 := ov0.1
 refine tD (fun h2 => ?_) (fun h2 => ?_)
 ·refine tB (tI (by omega) (by omega)) (fun x3 h4 => ?_)
  refine tE (fun h5 => ?_) (fun h5 => ?_)
  ·have q6 : -9223372036854775808 ≤ (v5 + 1) → (v5 + 1) < 9223372036854775808 → IntKind.wrap .i64 (v5 + 1) = (v5 + 1) := Zao _
   have q7 : -9223372036854775808 ≤ IntKind.wrap .i64 (v5 + 1) ∧ IntKind.wrap .i64 (v5 + 1) < 9223372036854775808 := Zap _
   have q8 : -9223372036854775808 ≤ (v6 + 1) → (v6 + 1) < 9223372036854775808 → IntKind.wrap .i64 (v6 + 1) = (v6 + 1) := Zao _
   have q9 : -9223372036854775808 ≤ IntKind.wrap .i64 (v6 + 1) ∧ IntKind.wrap .i64 (v6 + 1) < 9223372036854775808 := Zap _
   exact tL ⟨ov0, cl⟩ (by unfold Zml lt6; dsimp only; omega)
  ·have q10 : -9223372036854775808 ≤ (v6 + 1) → (v6 + 1) < 9223372036854775808 → IntKind.wrap .i64 (v6 + 1) = (v6 + 1) := Zao _
   have q11 : -9223372036854775808 ≤ IntKind.wrap .i64 (v6 + 1) ∧ IntKind.wrap .i64 (v6 + 1) < 9223372036854775808 := Zap _
   exact tL ⟨ov0, cl⟩ (by unfold Zml lt6; dsimp only; omega)
 ·exact tR trivial
theorem Zuq (a0 : (List Int)) (a1 : Int) (oa0 : (SzL 8 (fun _ => True)) a0) : Tot (Zpm a0 a1) (fun r => True) := by
 unfold Zpm
 refine tX (Inv := Z3d) (μ := Zml) (m := (1000000, 0, 0, 0, 0, 0)) ?_ ?_
 ·have lb_a0 : a0.length * 8 ≤ 140737488351232 := oa0.1
  dsimp only [Zzn, LT.den]
  exact tL ⟨oa0, cl⟩ (by unfold Zml lt6; dsimp only; omega)
 ·intro s hs
  cases s with
  | L0 v0 v1 v5 v6 => exact Zaau v0 v1 v5 v6 hs
def Z51 : Zj1 → Prop
 | .L0 v1 v2 v3 E0 v9 => ((SzL 8 (fun _ => True)) v1) ∧ (Zw E0) ∧ (0 ≤ v9)
def Zog : Zj1 → M6
 | .L0 v1 v2 v3 E0 v9 => (1, ((v1.length : Int) - v9).toNat, 1000000, 0, 0, 0)
theorem Zaem (v1 : (List Int)) (v2 : Int) (v3 : Int) (E0 : Za) (v9 : Int) (h : ((SzL 8 (fun _ => True)) v1) ∧ (Zw E0) ∧ (0 ≤ v9)) : Tot (Zn2 v1 v2 v3 E0 v9).den (Nx Z51 Zog (1, ((v1.length : Int) - v9).toNat, 1000000, 0, 0, 0) (fun r => True)) := by
 obtain ⟨ov1, ob30000000, cv9⟩ := h
 have lb_v1 : v1.length * 8 ≤ 140737488351232 := ov1.1
 dsimp only [Zn2, LT.den]
 have q1 : v1.length * 8 ≤ 140737488351232 := ov1.1
 refine tD (fun h2 => ?_) (fun h2 => ?_)
 ·refine tB (tI (by omega) (by omega)) (fun x3 h4 => ?_)
  refine tB (Z07 E0 x3 ob30000000) (fun x5 h6 => ?_)
  refine tO (fun h7 => ?_) (fun h7 => ?_)
  ·exact tR trivial
  ·refine tN (fun h8 => ?_) (fun h8 => ?_)
   ·exact tR trivial
   ·refine tD (fun h9 => ?_) (fun h9 => ?_)
    ·refine tN (fun h10 => ?_) (fun h10 => ?_)
     ·exact tR trivial
     ·refine tB (Zuq v1 x3 ov1) (fun x11 h12 => ?_)
      refine tN (fun h13 => ?_) (fun h13 => ?_)
      ·exact tR trivial
      ·have q14 : -9223372036854775808 ≤ (v9 + 1) → (v9 + 1) < 9223372036854775808 → IntKind.wrap .i64 (v9 + 1) = (v9 + 1) := Zao _
       have q15 : -9223372036854775808 ≤ IntKind.wrap .i64 (v9 + 1) ∧ IntKind.wrap .i64 (v9 + 1) < 9223372036854775808 := Zap _
       exact tL ⟨ov1, ob30000000, cl⟩ (by unfold Zog lt6; dsimp only; omega)
    ·refine tB (Zuq v1 x3 ov1) (fun x16 h17 => ?_)
     refine tN (fun h18 => ?_) (fun h18 => ?_)
     ·exact tR trivial
     ·have q19 : -9223372036854775808 ≤ (v9 + 1) → (v9 + 1) < 9223372036854775808 → IntKind.wrap .i64 (v9 + 1) = (v9 + 1) := Zao _
      have q20 : -9223372036854775808 ≤ IntKind.wrap .i64 (v9 + 1) ∧ IntKind.wrap .i64 (v9 + 1) < 9223372036854775808 := Zap _
      exact tL ⟨ov1, ob30000000, cl⟩ (by unfold Zog lt6; dsimp only; omega)
 ·exact tR trivial
theorem Zmm (a0 : Za) (a1 : (List Int)) (a2 : Int) (a3 : Int) (oa0 : Zw a0) (oa1 : (SzL 8 (fun _ => True)) a1) : Tot (Zg5 a0 a1 a2 a3) (fun r => True) := by
 unfold Zg5
 refine tX (Inv := Z51) (μ := Zog) (m := (1000000, 0, 0, 0, 0, 0)) ?_ ?_
 ·have lb_a1 : a1.length * 8 ≤ 140737488351232 := oa1.1
  dsimp only [Z1v, LT.den]
  exact tL ⟨oa1, oa0, cl⟩ (by unfold Zog lt6; dsimp only; omega)
 ·intro s hs
  cases s with
  | L0 v1 v2 v3 E0 v9 => exact Zaem v1 v2 v3 E0 v9 hs
end Go.PW
